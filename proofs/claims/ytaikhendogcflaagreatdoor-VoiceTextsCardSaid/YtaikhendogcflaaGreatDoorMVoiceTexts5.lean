/-
  Walks of functions,and plain laws (texts put together). No condition.
-/
import Derived.Shelf.Strings.OnBuilder
import Derived.Shelf.LaysM
import Derived.Shelf.Strconv.Itoa3
import Derived.Shelf.LaysC
import Derived.Shelf.Strconv.AtoiAll
import Derived.Shelf.Strings.Cut
import Derived.Shelf.Strings.Prefix
import Derived.Shelf.Strings.Split
import Derived.Test.YtaikhendogcflaaGreatDoorProg
import Derived.Lib.Split
import Derived.Lib.Atoi
import Derived.Lib.AtoiAll
import Derived.Lib.ItoaMem
import Derived.LaidMore
import Derived.Stop.Joined
import Derived.Stop.LaidErr
import Derived.Lib.LaidTab
import Derived.Shelf.Vars
import Derived.HandedShaped
import Derived.Lay
import Derived.Test.YtaikhendogcflaaGreatDoorRows
import Derived.Lib.Join
import Derived.Test.YtaikhendogcflaaGreatDoorMVoiceTexts1
import Derived.Test.YtaikhendogcflaaGreatDoorMVoiceTexts2
import Derived.Test.YtaikhendogcflaaGreatDoorMVoiceTexts3
import Derived.Test.YtaikhendogcflaaGreatDoorMVoiceTexts4
set_option maxRecDepth 100000
set_option maxHeartbeats 1000000
set_option linter.unusedSimpArgs false
set_option linter.unusedVariables false
namespace Go.Proofs.YtaikhendogcflaaGreatDoor
open Go.Proofs.Tryz
open Go.RowKit
section
open Go.Shelf
def Tryz.laysM171_ren:Go.Shelf.Ren:=⟨fun | 171=>43 | 243=>109 | 246=>175 | 283=>211 | 284=>212 | 285=>213 | 286=>214 | 129=>238 | 317=>237 | 318=>239 | 319=>240 | 320=>226 | 337=>254 | 338=>255 | n=>n,fun | 3=>3 | 9=>9 | 2=>2 | 4=>4 | 171=>308 | 0=>0 | 53=>84 | 37=>93 | 5=>5 | 173=>311 | 212=>334 | 51=>335 | 20=>20 | 213=>336 | 46=>87 | 232=>360 | 233=>361 | n=>n,fun | 17=>1 | 18=>7 | 19=>8 | n=>n⟩
theorem Tryz.laysM171:Go.Proofs.LaysM.n171 prog Tryz.laysM171_ren:={
 mixed:=by kernel_rfl
 f129:=func238.trans (congrArg some (by kernel_rfl))
 f171:=func43.trans (congrArg some (by kernel_rfl))
 f243:=func109.trans (congrArg some (by kernel_rfl))
 f246:=func175.trans (congrArg some (by kernel_rfl))
 f283:=func211.trans (congrArg some (by kernel_rfl))
 f284:=func212.trans (congrArg some (by kernel_rfl))
 f285:=func213.trans (congrArg some (by kernel_rfl))
 f286:=func214.trans (congrArg some (by kernel_rfl))
 f317:=func237.trans (congrArg some (by kernel_rfl))
 f318:=func239.trans (congrArg some (by kernel_rfl))
 f319:=func240.trans (congrArg some (by kernel_rfl))
 f320:=func226.trans (congrArg some (by kernel_rfl))
 f337:=func254.trans (congrArg some (by kernel_rfl))
 f338:=func255.trans (congrArg some (by kernel_rfl))
 t0:=underlying0
 a0:=Tryz.isAgg0
 z0:=Tryz.sizeOf0
 v0:=Tryz.zeroValue0
 t2:=underlying2
 a2:=Tryz.isAgg2
 z2:=Tryz.sizeOf2
 v2:=Tryz.zeroValue2
 t3:=underlying3
 a3:=Tryz.isAgg3
 z3:=Tryz.sizeOf3
 v3:=Tryz.zeroValue3
 t4:=underlying4
 a4:=Tryz.isAgg4
 z4:=Tryz.sizeOf4
 v4:=Tryz.zeroValue4
 t5:=underlying5
 a5:=Tryz.isAgg5
 z5:=Tryz.sizeOf5
 v5:=Tryz.zeroValue5
 t9:=underlying9
 a9:=Tryz.isAgg9
 z9:=Tryz.sizeOf9
 v9:=Tryz.zeroValue9
 t20:=underlying20
 a20:=Tryz.isAgg20
 z20:=Tryz.sizeOf20
 v20:=Tryz.zeroValue20
 t37:=underlying93
 a37:=Tryz.isAgg93
 z37:=Tryz.sizeOf93
 v37:=Tryz.zeroValue93
 t46:=underlying87
 a46:=Tryz.isAgg87
 z46:=Tryz.sizeOf87
 v46:=Tryz.zeroValue87
 t51:=underlying335
 a51:=Tryz.isAgg335
 z51:=Tryz.sizeOf335
 v51:=Tryz.zeroValue335
 t53:=underlying84
 a53:=Tryz.isAgg84
 z53:=Tryz.sizeOf84
 v53:=Tryz.zeroValue84
 t171:=underlying308
 a171:=Tryz.isAgg308
 z171:=Tryz.sizeOf308
 v171:=Tryz.zeroValue308
 t173:=underlying311
 a173:=Tryz.isAgg311
 z173:=Tryz.sizeOf311
 v173:=Tryz.zeroValue311
 t212:=underlying334
 a212:=Tryz.isAgg334
 z212:=Tryz.sizeOf334
 v212:=Tryz.zeroValue334
 t213:=underlying336
 a213:=Tryz.isAgg336
 z213:=Tryz.sizeOf336
 t232:=underlying360
 a232:=Tryz.isAgg360
 z232:=Tryz.sizeOf360
 v232:=Tryz.zeroValue360
 t233:=underlying361
 a233:=Tryz.isAgg361
 z233:=Tryz.sizeOf361
 v233:=Tryz.zeroValue361
 g17:=by kernel_rfl
 g18:=by kernel_rfl
 g19:=by kernel_rfl
 i0:=by kernel_rfl
 i2:=by kernel_rfl
 i3:=by kernel_rfl
 i4:=by kernel_rfl
 i5:=by kernel_rfl
 i9:=by kernel_rfl
 i20:=by kernel_rfl
 i37:=by kernel_rfl
 i46:=by kernel_rfl
 i51:=by kernel_rfl
 i53:=by kernel_rfl
 i171:=by kernel_rfl
 i173:=by kernel_rfl
 i212:=by kernel_rfl
 i232:=by kernel_rfl
 i233:=by kernel_rfl
 m17:=by kernel_rfl
 m18:=by kernel_rfl
 m19:=by kernel_rfl }
def Tryz.laysC172_ren:Go.Shelf.Ren:=⟨fun | 172=>179 | 244=>219 | 245=>220 | 247=>246 | 279=>247 | 280=>248 | 281=>249 | 282=>250 | 287=>261 | 316=>262 | 171=>43 | 205=>263 | 321=>265 | 322=>266 | 243=>109 | 246=>175 | 283=>211 | 284=>212 | 285=>213 | 286=>214 | 129=>238 | 317=>237 | 318=>239 | 319=>240 | 320=>226 | 337=>254 | 338=>255 | n=>n,fun | 9=>9 | 3=>3 | 75=>133 | 76=>216 | 4=>4 | 5=>5 | 167=>337 | 37=>93 | 0=>0 | 85=>338 | 2=>2 | 168=>340 | 53=>84 | 175=>354 | 46=>87 | 210=>358 | 127=>280 | 145=>366 | 143=>364 | 21=>21 | 171=>308 | 173=>311 | 212=>334 | 51=>335 | 20=>20 | 213=>336 | 232=>360 | 233=>361 | 80=>218 | n=>n,fun | 15=>5 | 16=>6 | 17=>1 | 18=>7 | 19=>8 | n=>n⟩
theorem Tryz.laysC172:Go.Proofs.LaysC.n172 prog Tryz.laysC172_ren:={
 mixed:=by kernel_rfl
 f129:=func238.trans (congrArg some (by kernel_rfl))
 f171:=func43.trans (congrArg some (by kernel_rfl))
 f172:=func179.trans (congrArg some (by kernel_rfl))
 f205:=func263.trans (congrArg some (by kernel_rfl))
 f243:=func109.trans (congrArg some (by kernel_rfl))
 f244:=func219.trans (congrArg some (by kernel_rfl))
 f245:=func220.trans (congrArg some (by kernel_rfl))
 f246:=func175.trans (congrArg some (by kernel_rfl))
 f247:=func246.trans (congrArg some (by kernel_rfl))
 f279:=func247.trans (congrArg some (by kernel_rfl))
 f280:=func248.trans (congrArg some (by kernel_rfl))
 f281:=func249.trans (congrArg some (by kernel_rfl))
 f282:=func250.trans (congrArg some (by kernel_rfl))
 f283:=func211.trans (congrArg some (by kernel_rfl))
 f284:=func212.trans (congrArg some (by kernel_rfl))
 f285:=func213.trans (congrArg some (by kernel_rfl))
 f286:=func214.trans (congrArg some (by kernel_rfl))
 f287:=func261.trans (congrArg some (by kernel_rfl))
 f316:=func262.trans (congrArg some (by kernel_rfl))
 f317:=func237.trans (congrArg some (by kernel_rfl))
 f318:=func239.trans (congrArg some (by kernel_rfl))
 f319:=func240.trans (congrArg some (by kernel_rfl))
 f320:=func226.trans (congrArg some (by kernel_rfl))
 f321:=func265.trans (congrArg some (by kernel_rfl))
 f322:=func266.trans (congrArg some (by kernel_rfl))
 f337:=func254.trans (congrArg some (by kernel_rfl))
 f338:=func255.trans (congrArg some (by kernel_rfl))
 t0:=underlying0
 a0:=Tryz.isAgg0
 z0:=Tryz.sizeOf0
 v0:=Tryz.zeroValue0
 t2:=underlying2
 a2:=Tryz.isAgg2
 z2:=Tryz.sizeOf2
 v2:=Tryz.zeroValue2
 t3:=underlying3
 a3:=Tryz.isAgg3
 z3:=Tryz.sizeOf3
 v3:=Tryz.zeroValue3
 t4:=underlying4
 a4:=Tryz.isAgg4
 z4:=Tryz.sizeOf4
 v4:=Tryz.zeroValue4
 t5:=underlying5
 a5:=Tryz.isAgg5
 z5:=Tryz.sizeOf5
 v5:=Tryz.zeroValue5
 t9:=underlying9
 a9:=Tryz.isAgg9
 z9:=Tryz.sizeOf9
 v9:=Tryz.zeroValue9
 t20:=underlying20
 a20:=Tryz.isAgg20
 z20:=Tryz.sizeOf20
 v20:=Tryz.zeroValue20
 t21:=underlying21
 a21:=Tryz.isAgg21
 z21:=Tryz.sizeOf21
 v21:=Tryz.zeroValue21
 t37:=underlying93
 a37:=Tryz.isAgg93
 z37:=Tryz.sizeOf93
 v37:=Tryz.zeroValue93
 t46:=underlying87
 a46:=Tryz.isAgg87
 z46:=Tryz.sizeOf87
 v46:=Tryz.zeroValue87
 t51:=underlying335
 a51:=Tryz.isAgg335
 z51:=Tryz.sizeOf335
 v51:=Tryz.zeroValue335
 t53:=underlying84
 a53:=Tryz.isAgg84
 z53:=Tryz.sizeOf84
 v53:=Tryz.zeroValue84
 t75:=underlying133
 a75:=Tryz.isAgg133
 z75:=Tryz.sizeOf133
 v75:=Tryz.zeroValue133
 t76:=underlying216
 a76:=Tryz.isAgg216
 z76:=Tryz.sizeOf216
 v76:=Tryz.zeroValue216
 t85:=underlying338
 a85:=Tryz.isAgg338
 z85:=Tryz.sizeOf338
 v85:=Tryz.zeroValue338
 t127:=underlying280
 a127:=Tryz.isAgg280
 z127:=Tryz.sizeOf280
 v127:=Tryz.zeroValue280
 t143:=underlying364
 a143:=Tryz.isAgg364
 z143:=Tryz.sizeOf364
 v143:=Tryz.zeroValue364
 t145:=underlying366
 a145:=Tryz.isAgg366
 z145:=Tryz.sizeOf366
 v145:=Tryz.zeroValue366
 t167:=underlying337
 a167:=Tryz.isAgg337
 z167:=Tryz.sizeOf337
 v167:=Tryz.zeroValue337
 t168:=underlying340
 a168:=Tryz.isAgg340
 z168:=Tryz.sizeOf340
 v168:=Tryz.zeroValue340
 t171:=underlying308
 a171:=Tryz.isAgg308
 z171:=Tryz.sizeOf308
 v171:=Tryz.zeroValue308
 t173:=underlying311
 a173:=Tryz.isAgg311
 z173:=Tryz.sizeOf311
 v173:=Tryz.zeroValue311
 t175:=underlying354
 a175:=Tryz.isAgg354
 z175:=Tryz.sizeOf354
 v175:=Tryz.zeroValue354
 t210:=underlying358
 a210:=Tryz.isAgg358
 z210:=Tryz.sizeOf358
 v210:=Tryz.zeroValue358
 t212:=underlying334
 a212:=Tryz.isAgg334
 z212:=Tryz.sizeOf334
 v212:=Tryz.zeroValue334
 t213:=underlying336
 a213:=Tryz.isAgg336
 z213:=Tryz.sizeOf336
 t232:=underlying360
 a232:=Tryz.isAgg360
 z232:=Tryz.sizeOf360
 v232:=Tryz.zeroValue360
 t233:=underlying361
 a233:=Tryz.isAgg361
 z233:=Tryz.sizeOf361
 v233:=Tryz.zeroValue361
 g15:=by kernel_rfl
 g16:=by kernel_rfl
 g17:=by kernel_rfl
 g18:=by kernel_rfl
 g19:=by kernel_rfl
 t80:=underlying218
 a80:=Tryz.isAgg218
 z80:=Tryz.sizeOf218
 v80:=Tryz.zeroValue218
 i0:=by kernel_rfl
 i2:=by kernel_rfl
 i3:=by kernel_rfl
 i4:=by kernel_rfl
 i5:=by kernel_rfl
 i9:=by kernel_rfl
 i20:=by kernel_rfl
 i21:=by kernel_rfl
 i37:=by kernel_rfl
 i46:=by kernel_rfl
 i51:=by kernel_rfl
 i53:=by kernel_rfl
 i75:=by kernel_rfl
 i76:=by kernel_rfl
 i80:=by kernel_rfl
 i85:=by kernel_rfl
 i127:=by kernel_rfl
 i143:=by kernel_rfl
 i145:=by kernel_rfl
 i167:=by kernel_rfl
 i168:=by kernel_rfl
 i171:=by kernel_rfl
 i173:=by kernel_rfl
 i175:=by kernel_rfl
 i210:=by kernel_rfl
 i212:=by kernel_rfl
 i232:=by kernel_rfl
 i233:=by kernel_rfl
 m15:=by kernel_rfl
 m16:=by kernel_rfl
 m17:=by kernel_rfl
 m18:=by kernel_rfl
 m19:=by kernel_rfl
 c0:=by kernel_rfl
 c2:=by kernel_rfl
 c3:=by kernel_rfl
 c4:=by kernel_rfl
 c5:=by kernel_rfl
 c9:=by kernel_rfl
 c20:=by kernel_rfl
 c21:=by kernel_rfl
 c37:=by kernel_rfl
 c46:=by kernel_rfl
 c51:=by kernel_rfl
 c53:=by kernel_rfl
 c75:=by kernel_rfl
 c76:=by kernel_rfl
 c80:=by kernel_rfl
 c85:=by kernel_rfl
 c127:=by kernel_rfl
 c143:=by kernel_rfl
 c145:=by kernel_rfl
 c167:=by kernel_rfl
 c168:=by kernel_rfl
 c171:=by kernel_rfl
 c173:=by kernel_rfl
 c175:=by kernel_rfl
 c210:=by kernel_rfl
 c212:=by kernel_rfl
 c213:=by kernel_rfl
 c232:=by kernel_rfl
 c233:=by kernel_rfl }
def Tryz.lays145_ren:Go.Shelf.Ren:=⟨fun | 145=>118 | 220=>181 | 219=>218 | 217=>242 | 225=>243 | 224=>244 | 267=>245 | 266=>259 | 314=>260 | n=>n,fun | 9=>9 | 4=>4 | 59=>178 | 3=>3 | 5=>5 | 46=>87 | 146=>352 | 51=>335 | n=>n,fun | 1=>2 | n=>n⟩
theorem Tryz.lays145:Go.Proofs.Lays.n145 prog Tryz.lays145_ren:={
 mixed:=by kernel_rfl
 f145:=func118.trans (congrArg some (by kernel_rfl))
 f217:=func242.trans (congrArg some (by kernel_rfl))
 f219:=func218.trans (congrArg some (by kernel_rfl))
 f220:=func181.trans (congrArg some (by kernel_rfl))
 f224:=func244.trans (congrArg some (by kernel_rfl))
 f225:=func243.trans (congrArg some (by kernel_rfl))
 f266:=func259.trans (congrArg some (by kernel_rfl))
 f267:=func245.trans (congrArg some (by kernel_rfl))
 f314:=func260.trans (congrArg some (by kernel_rfl))
 t3:=underlying3
 a3:=Tryz.isAgg3
 z3:=Tryz.sizeOf3
 v3:=Tryz.zeroValue3
 t4:=underlying4
 a4:=Tryz.isAgg4
 z4:=Tryz.sizeOf4
 v4:=Tryz.zeroValue4
 t5:=underlying5
 a5:=Tryz.isAgg5
 z5:=Tryz.sizeOf5
 v5:=Tryz.zeroValue5
 t9:=underlying9
 a9:=Tryz.isAgg9
 z9:=Tryz.sizeOf9
 v9:=Tryz.zeroValue9
 t46:=underlying87
 a46:=Tryz.isAgg87
 z46:=Tryz.sizeOf87
 v46:=Tryz.zeroValue87
 t51:=underlying335
 a51:=Tryz.isAgg335
 z51:=Tryz.sizeOf335
 v51:=Tryz.zeroValue335
 t59:=underlying178
 a59:=Tryz.isAgg178
 z59:=Tryz.sizeOf178
 v59:=Tryz.zeroValue178
 t146:=underlying352
 a146:=Tryz.isAgg352
 z146:=Tryz.sizeOf352
 v146:=Tryz.zeroValue352
 g1:=by kernel_rfl }
def Tryz.lays99_ren:Go.Shelf.Ren:=⟨fun | 99=>48 | 206=>116 | n=>n,fun | 9=>9 | 4=>4 | 3=>3 | n=>n,fun | n=>n⟩
theorem Tryz.lays99:Go.Proofs.Lays.n99 prog Tryz.lays99_ren:={
 mixed:=by kernel_rfl
 f99:=func48.trans (congrArg some (by kernel_rfl))
 f206:=func116.trans (congrArg some (by kernel_rfl))
 t3:=underlying3
 a3:=Tryz.isAgg3
 z3:=Tryz.sizeOf3
 v3:=Tryz.zeroValue3
 t4:=underlying4
 a4:=Tryz.isAgg4
 z4:=Tryz.sizeOf4
 v4:=Tryz.zeroValue4
 t9:=underlying9
 a9:=Tryz.isAgg9
 z9:=Tryz.sizeOf9
 v9:=Tryz.zeroValue9 }
def Tryz.lays101_ren:Go.Shelf.Ren:=⟨fun | 101=>180 | 208=>221 | 206=>116 | n=>n,fun | 9=>9 | 4=>4 | 3=>3 | n=>n,fun | n=>n⟩
theorem Tryz.lays101:Go.Proofs.Lays.n101 prog Tryz.lays101_ren:={
 mixed:=by kernel_rfl
 f101:=func180.trans (congrArg some (by kernel_rfl))
 f206:=func116.trans (congrArg some (by kernel_rfl))
 f208:=func221.trans (congrArg some (by kernel_rfl))
 t3:=underlying3
 a3:=Tryz.isAgg3
 z3:=Tryz.sizeOf3
 v3:=Tryz.zeroValue3
 t4:=underlying4
 a4:=Tryz.isAgg4
 z4:=Tryz.sizeOf4
 v4:=Tryz.zeroValue4
 t9:=underlying9
 a9:=Tryz.isAgg9
 z9:=Tryz.sizeOf9
 v9:=Tryz.zeroValue9 }
def Tryz.lays146_ren:Go.Shelf.Ren:=⟨fun | 146=>46 | 221=>110 | 268=>176 | 138=>177 | 143=>178 | 195=>215 | 197=>216 | 218=>217 | 219=>218 | 260=>241 | 217=>242 | 225=>243 | 224=>244 | 267=>245 | 266=>259 | 314=>260 | n=>n,fun | 9=>9 | 31=>37 | 3=>3 | 4=>4 | 0=>0 | 105=>314 | 21=>21 | 5=>5 | 46=>87 | 119=>348 | 139=>351 | 138=>350 | 146=>352 | 51=>335 | n=>n,fun | 1=>2 | 3=>3 | 4=>4 | n=>n⟩
theorem Tryz.lays146:Go.Proofs.Lays.n146 prog Tryz.lays146_ren:={
 mixed:=by kernel_rfl
 f138:=func177.trans (congrArg some (by kernel_rfl))
 f143:=func178.trans (congrArg some (by kernel_rfl))
 f146:=func46.trans (congrArg some (by kernel_rfl))
 f195:=func215.trans (congrArg some (by kernel_rfl))
 f197:=func216.trans (congrArg some (by kernel_rfl))
 f217:=func242.trans (congrArg some (by kernel_rfl))
 f218:=func217.trans (congrArg some (by kernel_rfl))
 f219:=func218.trans (congrArg some (by kernel_rfl))
 f221:=func110.trans (congrArg some (by kernel_rfl))
 f224:=func244.trans (congrArg some (by kernel_rfl))
 f225:=func243.trans (congrArg some (by kernel_rfl))
 f260:=func241.trans (congrArg some (by kernel_rfl))
 f266:=func259.trans (congrArg some (by kernel_rfl))
 f267:=func245.trans (congrArg some (by kernel_rfl))
 f268:=func176.trans (congrArg some (by kernel_rfl))
 f314:=func260.trans (congrArg some (by kernel_rfl))
 t0:=underlying0
 a0:=Tryz.isAgg0
 z0:=Tryz.sizeOf0
 v0:=Tryz.zeroValue0
 t3:=underlying3
 a3:=Tryz.isAgg3
 z3:=Tryz.sizeOf3
 v3:=Tryz.zeroValue3
 t4:=underlying4
 a4:=Tryz.isAgg4
 z4:=Tryz.sizeOf4
 v4:=Tryz.zeroValue4
 t5:=underlying5
 a5:=Tryz.isAgg5
 z5:=Tryz.sizeOf5
 v5:=Tryz.zeroValue5
 t9:=underlying9
 a9:=Tryz.isAgg9
 z9:=Tryz.sizeOf9
 v9:=Tryz.zeroValue9
 t21:=underlying21
 a21:=Tryz.isAgg21
 z21:=Tryz.sizeOf21
 v21:=Tryz.zeroValue21
 t31:=underlying37
 a31:=Tryz.isAgg37
 z31:=Tryz.sizeOf37
 v31:=Tryz.zeroValue37
 t46:=underlying87
 a46:=Tryz.isAgg87
 z46:=Tryz.sizeOf87
 v46:=Tryz.zeroValue87
 t51:=underlying335
 a51:=Tryz.isAgg335
 z51:=Tryz.sizeOf335
 v51:=Tryz.zeroValue335
 t105:=underlying314
 a105:=Tryz.isAgg314
 z105:=Tryz.sizeOf314
 v105:=Tryz.zeroValue314
 t119:=underlying348
 a119:=Tryz.isAgg348
 z119:=Tryz.sizeOf348
 t138:=underlying350
 a138:=Tryz.isAgg350
 z138:=Tryz.sizeOf350
 v138:=Tryz.zeroValue350
 t139:=underlying351
 a139:=Tryz.isAgg351
 z139:=Tryz.sizeOf351
 v139:=Tryz.zeroValue351
 t146:=underlying352
 a146:=Tryz.isAgg352
 z146:=Tryz.sizeOf352
 v146:=Tryz.zeroValue352
 g1:=by kernel_rfl
 g3:=by kernel_rfl
 g4:=by kernel_rfl }
end
section
open Go Go.Lib
def spl (c:UInt8):List UInt8→List (List UInt8)
 | []=>[[]]
 | b::r=>if b=c then []::spl c r else match spl c r with
  | []=>[[b]]
  | x::l=>(b::x)::l
theorem spl_ne (c:UInt8):∀ s,spl c s≠[]
 | []=>by simp [spl]
 | b::r=>by
  unfold spl
  split
  ·simp
  ·split <;> simp
theorem index_hit (c:UInt8) (r:List UInt8):index (c::r) [c]=0:=by
 unfold index
 rw [if_pos (by simp)]
theorem index_skip {b c:UInt8} (h:b≠c) (r:List UInt8):index (b::r) [c]=if index r [c] = -1 then -1 else index r [c]+1:=by
 rw [index,if_neg (by simp [List.isPrefixOf];exact fun e=>h e.symm)]
 by_cases h1:index r [c] = -1
 · rw [if_pos (beq_iff_eq.2 h1),if_pos h1]
 · rw [if_neg (fun e=>h1 (beq_iff_eq.1 e)),if_neg h1]
theorem split_spl (c:UInt8):∀ s:List UInt8,split s [c]=spl c s
 | []=>by
  unfold split
  rw [count_miss (by rfl)]
  rfl
 | b::r=>by
  have ih:=split_spl c r
  by_cases hb:b=c
  ·subst hb
   have h0:=index_hit b r
   unfold split
   rw [count_hit (by simp) (show index (b::r) [b]=((0:Nat):Int) from h0),Nat.add_comm 1,splitK,if_neg (by rw [h0];decide),h0]
   unfold spl
   rw [if_pos rfl,← ih]
   rfl
  ·have h1:=index_skip hb r
   by_cases hm:index r [c] = -1
   ·rw [if_pos hm] at h1
    have e:split r [c]=[r]:=by unfold split;rw [count_miss hm];rfl
    unfold split
    rw [count_miss h1]
    unfold spl
    rw [if_neg hb,← ih,e]
    rfl
   ·rw [if_neg hm] at h1
    obtain ⟨i,hi⟩:∃ i:Nat,index r [c]=i:=⟨(index r [c]).toNat,by have:=index_ge r [c];omega⟩
    have h2:index (b::r) [c]=((i+1:Nat):Int):=by rw [h1,hi];rfl
    have c1:=count_hit (sub:=[c]) (by simp) hi
    have c2:=count_hit (sub:=[c]) (by simp) h2
    have e1:split r [c]=r.take i::splitK [c] 0 (count (r.drop (i+1)) [c]) (r.drop (i+1)):=by
     unfold split
     rw [c1,Nat.add_comm 1,splitK,if_neg (by rw [hi];intro e;have:=beq_iff_eq.1 e;omega),hi]
     rfl
    have e2:split (b::r) [c]=(b::r.take i)::splitK [c] 0 (count (r.drop (i+1)) [c]) (r.drop (i+1)):=by
     unfold split
     rw [c2,Nat.add_comm 1,splitK,if_neg (by rw [h2];intro e;have:=beq_iff_eq.1 e;omega),h2]
     rfl
    unfold spl
    rw [if_neg hb,← ih,e1,e2]
theorem cut_spl (c:UInt8):∀ s:List UInt8,(c ∉ s∧cut s [c]=(s,[],false)∧spl c s=[s])∨∃ a r,c ∉ a∧s=a++c::r∧cut s [c]=(a,r,true)∧spl c s=a::spl c r
 | []=>.inl ⟨by simp,by rfl,rfl⟩
 | b::r=>by
   by_cases hb:b=c
   · subst hb
     refine .inr ⟨[],r,by simp,Z,?_,by rw [spl,if_pos Z]⟩
     unfold cut
     rw [index_hit]
     rfl
   · have h1:=index_skip hb r
     rcases cut_spl c r with ⟨hn,hc,hs⟩ | ⟨a,q,hn,rfl,hc,hs⟩
     · have hm:index r [c] = -1:=by
         unfold cut at hc
         split at hc
         · exact absurd (congrArg (·.2.2) hc) (by simp)
         · have:=index_ge r [c];omega
       rw [if_pos hm] at h1
       refine .inl ⟨by simp [hn];exact fun e=>hb e.symm,?_,?_⟩
       · unfold cut
         rw [h1]
         rfl
       · rw [spl,if_neg hb,hs]
     · have hm : ¬ index (a++c::q) [c] = -1:=by
         intro hm
         unfold cut at hc
         rw [if_neg (by omega)] at hc
         exact absurd (congrArg (·.2.2) hc) (by simp)
       rw [if_neg hm] at h1
       obtain ⟨i,hi⟩:∃ i:Nat,index (a++c::q) [c]=i:=⟨(index (a++c::q) [c]).toNat,by have:=index_ge (a++c::q) [c];omega⟩
       refine .inr ⟨b::a,q,by simp [hn];exact fun e=>hb e.symm,Z,?_,?_⟩
       · unfold cut at hc ⊢
         rw [hi,if_pos (by omega)] at hc
         rw [h1,hi,if_pos (by omega)]
         have k1:=congrArg (·.1) hc
         have k2:=congrArg (·.2.1) hc
         dsimp only at k1 k2
         have t1:((i:Int)+1).toNat=i+1:=by omega
         have t2:(i:Int).toNat=i:=by omega
         rw [t2] at k1 k2
         rw [t1,Zy2,k1]
         have:i+1 + [c].length=(i + [c].length)+1:=by omega
         rw [this,Zy1,k2]
       · rw [spl,if_neg hb,hs]
end
section
open Go Go.Lib
def trim45:List UInt8→List UInt8
 | []=>[]
 | b::r=>if b=45 then r else b::r
def numP (s:List UInt8):Option Int:=match atoiAll s with
 | .ok v=>if (trim45 s).length≤3∧itoa v=s then some v else none
 | _=>none
def digR:Nat→List UInt8→Option Nat
 | n,[]=>some n
 | n,b::r=>if b.toNat < 48∨57 < b.toNat then none else digR (10 * n+(b.toNat - 48)) r
def magR (neg:Bool) (w:List UInt8):Option Nat :=
 if w.length < 1∨3 < w.length∨(w.head? = some 48∧(1 < w.length∨neg=true)) then none else digR 0 w
def numR (s:List UInt8):Option Int:=if s.head? = some 45 then (magR true (s.drop 1)).map fun n:Nat=>-(n:Int) else (magR false s).map fun n:Nat=>(n:Int)
def dd3 (u:Nat):List UInt8:=if u < 10 then [UInt8.ofNat (48+u)] else if u < 100 then [UInt8.ofNat (48+u / 10),UInt8.ofNat (48+u % 10)] else [UInt8.ofNat (48+u / 100),UInt8.ofNat (48+u / 10 % 10),UInt8.ofNat (48+u % 10)]
theorem dd3_eq {u:Nat} (h:u < 1000):decDigits u=dd3 u:=by
 unfold dd3
 split
 ·rename_i h1;exact decDigits_one h1
 ·rename_i h1
  split
  ·rename_i h2;exact decDigits_two h1 h2
  ·rename_i h2
   rw [decDigits,dif_neg h1,decDigits_two (by omega) (by omega),Nat.div_div_eq_div_mul]
   rfl
def it3 (v:Int):List UInt8:=if v < 0 then 45::dd3 v.natAbs else dd3 v.toNat
theorem it3_eq {v:Int} (h : -999≤v∧v≤999):itoa v=it3 v:=by
 unfold itoa it3
 split
 · rw [dd3_eq (by omega)]
 · rw [dd3_eq (by omega)]
theorem fin_pos:∀ u:Fin 1000,atoiAll (dd3 u.val)=.ok (u.val:Int)∧(trim45 (dd3 u.val)).length≤3∧numR (dd3 u.val)=some (u.val:Int):=by decide +kernel
theorem fin_neg:∀ u:Fin 1000,0 < u.val→atoiAll (45::dd3 u.val)=.ok (-(u.val:Int))∧(trim45 (45::dd3 u.val)).length≤3∧numR (45::dd3 u.val)=some (-(u.val:Int)):=by decide +kernel
theorem it3_all {v:Int} (h : -999≤v∧v≤999):atoiAll (it3 v)=.ok v∧(trim45 (it3 v)).length≤3∧numR (it3 v)=some v:=by
 unfold it3
 split
 ·have:=fin_neg ⟨v.natAbs,by omega⟩ (by show 0 < v.natAbs;omega)
  dsimp only at this
  rwa [show -((v.natAbs:Nat):Int)=v by omega] at this
 ·have:=fin_pos ⟨v.toNat,by omega⟩
  dsimp only at this
  rwa [show ((v.toNat:Nat):Int)=v by omega] at this
theorem dec_head (u:Nat):(decDigits u).head?≠some 45:=by
 induction u using Nat.strongRecOn with
 | _ u ih =>
  rw [decDigits]
  split
  ·rename_i h
   have:∀ x:Fin 10,([UInt8.ofNat (48+x.val)]:List UInt8).head?≠some 45:=by decide +kernel
   exact this ⟨u,h⟩
  ·rename_i h
   have h1:=ih (u / 10) (by omega)
   have h2:decDigits (u / 10)≠[]:=by
    intro e
    have:=decDigits_length (u / 10)
    rw [e] at this
    have:=nDigits_pos (u / 10)
    simp at *
    omega
   cases hd:decDigits (u / 10) with
   | nil=>exact absurd hd h2
   | cons a r=>rw [hd] at h1;exact h1
theorem trim_dec (u:Nat):trim45 (decDigits u)=decDigits u:=by
 have h:=dec_head u
 cases hd:decDigits u with
 | nil=>rfl
 | cons a r =>
  rw [hd] at h
  show (if a=45 then r else a::r)=a::r
  rw [if_neg (fun e=>h (by rw [e];rfl))]
theorem numP_iff {s:List UInt8} {v:Int}:numP s=some v↔(-999≤v∧v≤999)∧s=it3 v:=by
 constructor
 ·intro h
  unfold numP at h
  split at h
  ·rename_i v' ha
   split at h
   ·rename_i hc
    cases h
    obtain ⟨h1,h2⟩:=hc
    have hb : -999≤v∧v≤999:=by
     rw [← h2] at h1
     unfold itoa at h1
     split at h1
     ·have h3:trim45 (45::decDigits v.natAbs)=decDigits v.natAbs:=by simp only [trim45,if_true]
      rw [h3,decDigits_length] at h1
      have h4:=lt_pow_nDigits v.natAbs
      have h5:10 ^ nDigits v.natAbs≤10 ^ 3:=Nat.pow_le_pow_right (by decide) h1
      omega
     ·rw [trim_dec,decDigits_length] at h1
      have h4:=lt_pow_nDigits v.toNat
      have h5:10 ^ nDigits v.toNat≤10 ^ 3:=Nat.pow_le_pow_right (by decide) h1
      omega
    exact ⟨hb,by rw [← it3_eq hb,h2]⟩
   ·cases h
  ·cases h
 ·rintro ⟨hb,rfl⟩
  obtain ⟨h1,h2,-⟩:=it3_all hb
  unfold numP
  rw [h1]
  dsimp only
  rw [if_pos ⟨h2,it3_eq hb⟩]
theorem dig_of {b:UInt8} (h : ¬ (b.toNat < 48∨57 < b.toNat)):∃ d:Fin 10,b=UInt8.ofNat (48+d.val) :=
 ⟨⟨b.toNat - 48,by omega⟩,by
  apply UInt8.toNat_inj.1
  dsimp only
  rw [UInt8.toNat_ofNat']
  have:=b.toNat_lt
  omega⟩
theorem fin1:∀ a:Fin 10,∀ n,digR 0 [UInt8.ofNat (48+a.val)]=some n→n < 1000∧dd3 n=[UInt8.ofNat (48+a.val)]:=by
 have h:∀ a:Fin 10,digR 0 [UInt8.ofNat (48+a.val)]=some a.val∧a.val < 1000∧dd3 a.val=[UInt8.ofNat (48+a.val)]:=by decide +kernel
 intro a n hn
 rw [(h a).1] at hn;cases hn
 exact (h a).2
theorem fin2:∀ a b:Fin 10,a.val≠0→∀ n,digR 0 [UInt8.ofNat (48+a.val),UInt8.ofNat (48+b.val)]=some n→n < 1000∧dd3 n=[UInt8.ofNat (48+a.val),UInt8.ofNat (48+b.val)]:=by
 have h:∀ a b:Fin 10,a.val≠0→digR 0 [UInt8.ofNat (48+a.val),UInt8.ofNat (48+b.val)]=some (10 * a.val+b.val)∧10 * a.val+b.val < 1000∧dd3 (10 * a.val+b.val)=[UInt8.ofNat (48+a.val),UInt8.ofNat (48+b.val)]:=by decide +kernel
 intro a b ha n hn
 rw [(h a b ha).1] at hn;cases hn
 exact (h a b ha).2
theorem fin3:∀ a b c:Fin 10,a.val≠0→∀ n,digR 0 [UInt8.ofNat (48+a.val),UInt8.ofNat (48+b.val),UInt8.ofNat (48+c.val)]=some n→n < 1000∧dd3 n=[UInt8.ofNat (48+a.val),UInt8.ofNat (48+b.val),UInt8.ofNat (48+c.val)]:=by
 have h:∀ a b c:Fin 10,a.val≠0→digR 0 [UInt8.ofNat (48+a.val),UInt8.ofNat (48+b.val),UInt8.ofNat (48+c.val)]=some (100 * a.val+10 * b.val+c.val)∧100 * a.val+10 * b.val+c.val < 1000∧dd3 (100 * a.val+10 * b.val+c.val)=[UInt8.ofNat (48+a.val),UInt8.ofNat (48+b.val),UInt8.ofNat (48+c.val)]:=by decide +kernel
 intro a b c ha n hn
 rw [(h a b c ha).1] at hn;cases hn
 exact (h a b c ha).2
theorem magR_some {neg:Bool} {w:List UInt8} {n:Nat} (h:magR neg w=some n):n < 1000∧dd3 n=w∧(neg=true→0 < n):=by
 unfold magR at h
 split at h
 ·cases h
 ·rename_i hc
  have z:∀ {a:Fin 10},UInt8.ofNat (48+a.val)≠48→a.val≠0:=fun h e=>h (by rw [e];rfl)
  match w,hc,h with
  | [],hc,h=>exact absurd (Or.inl (by simp)) hc
  | [a],hc,h =>
   by_cases d1:a.toNat < 48∨57 < a.toNat
   ·unfold digR at h;rw [if_pos d1] at h;cases h
   ·obtain ⟨x,rfl⟩:=dig_of d1
    obtain ⟨h1,h2⟩:=fin1 x n h
    refine ⟨h1,h2,fun hn=>?_⟩
    refine Nat.pos_of_ne_zero fun e=>hc (.inr (.inr ⟨?_,.inr hn⟩))
    rw [← h2,e];rfl
  | [a,b],hc,h =>
   have ha:a≠48:=fun e=>hc (.inr (.inr ⟨by rw [e];rfl,.inl (by simp)⟩))
   by_cases d1:a.toNat < 48∨57 < a.toNat
   ·unfold digR at h;rw [if_pos d1] at h;cases h
   ·by_cases d2:b.toNat < 48∨57 < b.toNat
    ·unfold digR at h;rw [if_neg d1] at h;unfold digR at h;rw [if_pos d2] at h;cases h
    ·obtain ⟨x,rfl⟩:=dig_of d1
     obtain ⟨y,rfl⟩:=dig_of d2
     obtain ⟨h1,h2⟩:=fin2 x y (z ha) n h
     refine ⟨h1,h2,fun _=>Nat.pos_of_ne_zero fun e=>?_⟩
     rw [e] at h2
     exact absurd (show (1:Nat)=2 from congrArg List.length h2) (by decide)
  | [a,b,c],hc,h =>
   have ha:a≠48:=fun e=>hc (.inr (.inr ⟨by rw [e];rfl,.inl (by simp)⟩))
   by_cases d1:a.toNat < 48∨57 < a.toNat
   ·unfold digR at h;rw [if_pos d1] at h;cases h
   ·by_cases d2:b.toNat < 48∨57 < b.toNat
    ·unfold digR at h;rw [if_neg d1] at h;unfold digR at h;rw [if_pos d2] at h;cases h
    ·by_cases d3:c.toNat < 48∨57 < c.toNat
     ·unfold digR at h;rw [if_neg d1] at h;unfold digR at h;rw [if_neg d2] at h;unfold digR at h;rw [if_pos d3] at h;cases h
     ·obtain ⟨x,rfl⟩:=dig_of d1
      obtain ⟨y,rfl⟩:=dig_of d2
      obtain ⟨u,rfl⟩:=dig_of d3
      obtain ⟨h1,h2⟩:=fin3 x y u (z ha) n h
      refine ⟨h1,h2,fun _=>Nat.pos_of_ne_zero fun e=>?_⟩
      rw [e] at h2
      exact absurd (show (1:Nat)=3 from congrArg List.length h2) (by decide)
  | a::b::c::d::r,hc,h=>exact absurd (Or.inr (Or.inl (by simp))) hc
theorem numR_iff {s:List UInt8} {v:Int}:numR s=some v↔(-999≤v∧v≤999)∧s=it3 v:=by
 constructor
 ·intro h
  unfold numR at h
  split at h
  ·rename_i hh
   obtain ⟨n,hn,rfl⟩:=Option.map_eq_some_iff.1 h
   obtain ⟨h1,h2,h3⟩:=magR_some hn
   have h3:=h3 rfl
   refine ⟨by omega,?_⟩
   unfold it3
   rw [if_pos (by omega),show (-(n:Int)).natAbs=n by omega,h2]
   cases s with
   | nil=>cases hh
   | cons b r=>cases hh;rfl
  ·obtain ⟨n,hn,rfl⟩:=Option.map_eq_some_iff.1 h
   obtain ⟨h1,h2,-⟩:=magR_some hn
   refine ⟨by omega,?_⟩
   unfold it3
   rw [if_neg (by omega),Int.toNat_natCast,h2]
 ·rintro ⟨hb,rfl⟩
  exact (it3_all hb).2.2
theorem num_eq (s:List UInt8):numP s=numR s:=by
 apply Option.ext
 intro v
 exact numP_iff.trans numR_iff.symm
end
structure StrW (w:World):Prop where
 pow : Lib.TabIs prog w "internal/strconv.uint64pow10" .u64 Lib.pow10Tab
 ml:∃ m,w.cell? ⟨2,0,none⟩=some (.int .i64 m)
 syn:∃ ev,w.cell? ⟨5,0,none⟩=some ev∧(ev=.nilIface∨∃ te pe,ev=.iface te pe)
 rng:∃ ev,w.cell? ⟨6,0,none⟩=some ev∧(ev=.nilIface∨∃ te pe,ev=.iface te pe)
 lt:8 < w.heap.size
theorem powNamed : prog.globalNamed "internal/strconv.uint64pow10" = some 1 := by kernel_rfl
theorem StrW.mem {w wc:World} {ex:Nat→Prop} {L:List (Nat×BA)} (h:StrW w) (M:Mem w ex wc L) (hx:∀ b,b≤8→¬ ex b):StrW wc:=by
 have hl:=h.lt
 have hb:∀ b,b≤8→wc.heap[b]? = w.heap[b]?:=fun b hb=>M.block b (by omega) (hx b hb)
 have hc:∀ b,b≤8→∀ v,w.cell? ⟨b,0,none⟩=some v→wc.cell? ⟨b,0,none⟩=some v:=fun b h9 v hv=>(World.cell?_of_block (w:=w) (a:=⟨b,0,none⟩) (hb b h9)).trans hv
 refine ⟨?_,?_,?_,?_,Nat.lt_of_lt_of_le hl M.size⟩
 ·have hp:=h.pow
  unfold Lib.TabIs World.var? at hp ⊢
  rw [powNamed] at hp ⊢
  simp only [Option.bind_some] at hp ⊢
  rw [hb 1 (by decide)]
  exact hp
 ·obtain ⟨m,hm⟩:=h.ml
  exact ⟨m,hc _ (by decide) _ hm⟩
 ·obtain ⟨ev,h1,h2⟩:=h.syn
  exact ⟨ev,hc _ (by decide) _ h1,h2⟩
 ·obtain ⟨ev,h1,h2⟩:=h.rng
  exact ⟨ev,hc _ (by decide) _ h1,h2⟩
theorem StrW.mem0 {w wc:World} {L:List (Nat×BA)} (h:StrW w) (M:Mem w noEx wc L):StrW wc:=h.mem M (fun _ _ h=>h)
def stE (p:(List UInt8)):List Value:=[sv p]
def st (l:List (List UInt8)):List Value:=l.flatMap stE
theorem st_get:∀ (l:List (List UInt8)) (k:Nat) {x:(List UInt8)},l[k]? = some x→∀ (i:Nat) (v:Value),(stE x)[i]? = some v→(st l)[k * 1+i]? = some v
 | [],k,x,h=>by simp at h
 | y::l,0,x,h=>by
  intro i v hv
  simp only [List.getElem?_cons_zero,Option.some.injEq] at h
  subst h
  show (stE y++st l)[0 * 1+i]? = some v
  rw [Nat.zero_mul,Zxa,List.getElem?_append_left (List.getElem?_eq_some_iff.1 hv).1]
  exact hv
 | y::l,k+1,x,h=>by
  intro i v hv
  have:=st_get l k (by simpa using h) i v hv
  show (stE y++st l)[(k+1) * 1+i]? = some v
  have e:(stE y).length=1:=rfl
  rw [List.getElem?_append_right (by rw [e];omega),e,show (k+1) * 1+i - 1=k * 1+i by omega]
  exact this
theorem st_snoc (l:List (List UInt8)) (p:(List UInt8)):st l++[sv p]=st (l++[p]):=by simp [st,stE]
section
variable {w w':World} {ex:Nat→Prop} {I L:List (Nat×BA)} {n b o k:Nat} {A:Option Addr} {l:List (List UInt8)} {p:(List UInt8)}
theorem Sp.stA (S:Sp w ex I A n 1 b o (st l)) (M:Mem w ex w' L) (hI:I.Sublist L) (h:l[k]? = some p) (f:Nat) (v:Value) (hv:(stE p)[f]? = some v):w'.cell? ⟨b,o+k * 1+f,none⟩=some v:=by
 have:=S.cell w' L M hI _ _ (st_get l k h f v hv)
 rwa [← Nat.add_assoc] at this
theorem Sp.stC0 (S:Sp w ex I A n 1 b o (st l)) (M:Mem w ex w' L) (hI:I.Sublist L) (h:l[k]? = some p):w'.cell? ⟨b,o+k * 1+0,none⟩=some (sv p):=S.stA M hI h 0 _ rfl
end
theorem Itoa_any (n:Int) (w:World) (hn : -9223372036854775808≤n∧n≤9223372036854775807) (hT:StrW w):Calls prog 43 #[.int .i64 n] w fun e w'=>e=.returned (sv (Lib.itoa n))∧Below w.heap.size w w' :=
 (Any.strconv_Itoa Tryz.laysM171 n hn.1 hn.2 w hT.pow).mono fun e w' h=>by
  obtain ⟨rfl,k,os,rfl⟩:=h
  exact ⟨rfl,Z,Z,Z,by simp,fun b hb=>Sort.heap_grow_old _ _ hb⟩
def nilB:Value→Bool
 | .nilIface=>true
 | _=>false
theorem Atoi_any (s:List UInt8) (w:World) (hs:s.length≤1000000) (hT:StrW w):Calls prog 179 #[sv s] w fun e w'=>∃ n ev,e=.returned (.tuple #[.int .i64 n,ev])∧(-9223372036854775808≤n∧n≤9223372036854775807)∧(ev=.nilIface∨∃ te pe,ev=.iface te pe)∧(nilB ev=true→Lib.atoiAll s=.ok n)∧(nilB ev=false→∀ v,Lib.atoiAll s≠.ok v)∧Below w.heap.size w w':=by
 have hz:(⟨s.toArray⟩:ByteArray).size=s.length:=sv_size s
 have hd:(⟨s.toArray⟩:ByteArray).data.toList=s:=sv_data s
 obtain ⟨ev1,c1,e1⟩:=hT.syn
 obtain ⟨ev2,c2,e2⟩:=hT.rng
 cases h:Lib.atoiAll s with
 | ok v =>
  refine (Any.strconv_Atoi_ok Tryz.laysC172 ⟨s.toArray⟩ (by omega) v (by rw [hd];exact h) w).mono fun e w' h9=>?_
  obtain ⟨rfl,h9⟩:=h9
  refine ⟨v,.nilIface,Z,Lib.atoiAll_bounds h,.inl Z,fun _=>Z,fun h=>(by cases h),?_⟩
  rcases h9 with rfl | ⟨t,rfl⟩
  ·exact Below.refl _ _
  ·exact ⟨rfl,Z,Z,by rw [Lib.bytesWorld_size];omega,fun k hk=>Lib.bytesWorld_at_old w _ _ k hk⟩
 | range =>
  refine (Any.strconv_Atoi_range Tryz.laysC172 ⟨s.toArray⟩ (by omega) (by rw [hd];exact h) ev2 w c2 e2).mono fun e w' h9=>?_
  obtain ⟨N,rfl,-,-,hb⟩:=h9
  have hbd:=Lib.atoiSat_bounds s
  rw [← hd] at hbd
  exact ⟨_,_,Z,⟨by omega,by omega⟩,.inr ⟨_,_,Z⟩,fun h=>(by cases h),fun _ v hv=>(by cases hv),hb⟩
 | _ =>
  refine (Any.strconv_Atoi_syntax Tryz.laysC172 ⟨s.toArray⟩ (by omega) (by rw [hd];exact h) ev1 w c1 e1).mono fun e w' h9=>?_
  obtain ⟨N,rfl,-,-,hb⟩:=h9
  exact ⟨_,_,Z,⟨by omega,by omega⟩,.inr ⟨_,_,Z⟩,fun h=>(by cases h),fun _ v hv=>(by cases hv),hb⟩
theorem HasPrefix_any (s p:List UInt8) (w:World):Calls prog 48 #[sv s,sv p] w fun e w'=>e=.returned (.bool (p.isPrefixOf s))∧Below w.heap.size w w' :=
 (Any.strings_HasPrefix Tryz.lays99 ⟨s.toArray⟩ ⟨p.toArray⟩ w).mono fun e w' h=>by
  obtain ⟨rfl,rfl⟩:=h
  exact ⟨by simp only [sv_data];rfl,Below.refl _ _⟩
theorem trim_eq (s:List UInt8):Lib.trimPrefix s [45]=trim45 s:=by
 unfold Lib.trimPrefix Lib.hasPrefix
 cases s with
 | nil=>rfl
 | cons b r =>
  show (if (((45:UInt8) == b) && true)=true then _ else _)=(if b=45 then r else b::r)
  rw [Bool.and_true]
  by_cases h:b=45
  ·subst h;rfl
  ·rw [if_neg h,if_neg (by simpa using fun e=>h e.symm)]
theorem TrimPrefix_any (s:List UInt8) (w:World):Calls prog 180 #[sv s,sv [45]] w fun e w'=>e=.returned (sv (trim45 s))∧Below w.heap.size w w' :=
 (Any.strings_TrimPrefix Tryz.lays101 ⟨s.toArray⟩ ⟨[45].toArray⟩ w).mono fun e w' h=>by
  obtain ⟨rfl,rfl⟩:=h
  exact ⟨by rw [sv_data,sv_data,trim_eq],Below.refl _ _⟩
theorem Cut_any (s:List UInt8) (p:List UInt8) (w:World) (hs:s.length≤1000000) (hT:StrW w):Calls prog 118 #[sv s,sv p] w fun e w'=>e=.returned (.tuple #[sv (Lib.cut s p).1,sv (Lib.cut s p).2.1,.bool (Lib.cut s p).2.2])∧Below w.heap.size w w':=by
 obtain ⟨m,hm⟩:=hT.ml
 refine (Any.strings_Cut Tryz.lays145 ⟨s.toArray⟩ ⟨p.toArray⟩ m w (by rw [sv_size];omega) hm).mono fun e w' h=>?_
 obtain ⟨rfl,n,rfl⟩:=h
 exact ⟨by rw [sv_data,sv_data],Z,Z,Z,Nat.le_refl _,fun _ _=>Z⟩
def SplitPost (l:List (List UInt8)) (w:World) (e:Ending) (w':World):Prop:=∃ g,e=.returned (.slice (some ⟨g,0,none⟩) l.length l.length)∧Mem w noEx w' [(g,.cells (st l))]
theorem Split_any (s:List UInt8) (c:UInt8) (w:World) (hs:s.length≤1000000) (hT:StrW w):Calls prog 46 #[sv s,sv [c]] w (SplitPost (spl c s) w):=by
 obtain ⟨m,hm⟩:=hT.ml
 have h1:1≤(⟨[c].toArray⟩:ByteArray).size:=by rw [sv_size];exact Nat.le_refl _
 refine (Any.strings_Split Tryz.lays146 (by kernel_rfl) ⟨s.toArray⟩ ⟨[c].toArray⟩ m w (by rw [sv_size];omega) hm h1).mono fun e w' h=>?_
 obtain ⟨rfl,rfl⟩:=h
 obtain ⟨bs,hbs⟩:∃ bs,bs=Lib.splitB ⟨[c].toArray⟩ 0 (Lib.countB ⟨s.toArray⟩ ⟨[c].toArray⟩) ⟨s.toArray⟩:=⟨_,rfl⟩
 have hl:bs.length=Lib.countB ⟨s.toArray⟩ ⟨[c].toArray⟩+1:=by rw [hbs];exact Lib.splitB_all _ h1 0 _ _ rfl
 have hd:bs.map (·.data.toList)=spl c s:=by
   rw [← split_spl,hbs,Lib.splitB_data]
   rfl
 have hn:(spl c s).length=bs.length:=by rw [← hd,List.length_map]
 have hc:bs.map Value.string=st (spl c s):=by
   rw [← hd]
   clear hd hn hl hbs
   induction bs with
   | nil=>rfl
   | cons b r ih =>
     show Value.string b::r.map Value.string=sv b.data.toList::st (r.map (·.data.toList))
     rw [ih]
 rw [← hbs,hc,← hl,← hn]
 exact ⟨_,Z,(Mem.init w noEx).new _ _⟩
theorem errNil (w:World):(binOp .eql 133 .nilIface .nilIface).run prog w=.ok (.bool true) w:=by kernel_rfl
theorem errHeld (w:World) (te:TypeId) (pe:Value):(binOp .eql 133 (.iface te pe) .nilIface).run prog w=.ok (.bool false) w:=by kernel_rfl
theorem rn_ifnil {op:Oper} {a:Act} {w:World} {t':TypeId} {x:Operand} {ev:Value} (ho:op.op=.binOp .eql 133 x (.const .nilIface) t') (hx:a.eval x=ev) (hev:ev=.nilIface∨∃ te pe,ev=.iface te pe):Runs prog op a (.bool (nilB ev)) w:=by
 refine rn_bin (u':=.nilIface) ho hx Z ?_
 rcases hev with rfl | ⟨te,pe,rfl⟩
 ·rw [eqGuard_nil_constR]
  exact errNil w
 ·exact errHeld w te pe
section
open Go.ChangeShapes Go.WideShapes Go.ChangeAt Go.RowKit
def laidT : List (String × DataW Unit) := [("math/bits.deBruijn32tab", Rows.laid_math_bits_deBruijn32tab), ("math/bits.deBruijn64tab", Rows.laid_math_bits_deBruijn64tab), ("internal/strconv.uint64pow10", Rows.laid_internal_strconv_uint64pow10), ("unicode/utf8.acceptRanges", Rows.laid_unicode_utf8_acceptRanges), ("strconv.ErrRange", Rows.laid_strconv_ErrRange), ("strconv.ErrSyntax", Rows.laid_strconv_ErrSyntax), ("unicode/utf8.first", Rows.laid_unicode_utf8_first)]
theorem gPow : prog.globalNamed "internal/strconv.uint64pow10" = some 1 := by kernel_rfl
theorem gSyn : prog.globalNamed "strconv.ErrSyntax" = some 5 := by kernel_rfl
theorem gRng : prog.globalNamed "strconv.ErrRange" = some 6 := by kernel_rfl
theorem g64 : prog.globalNamed "math/bits.deBruijn64tab" = some 8 := by kernel_rfl
theorem iface_cell {n nm:String} {d:DataW Unit} {r:List (String×DataW Unit)} {W:World} {g:Nat} {ti:TypeId} {ms:Array (String×TypeId)} (h:laidMet prog ((n,.iface nm d)::r) W) (hg:prog.globalNamed n=some g) (ht:(prog.globals[g]?).map (·.type)=some ti) (hi:prog.underlying ti=some (.interface ms)) :
   ∃ ev,W.cell? ⟨g,0,none⟩=some ev∧(ev=.nilIface∨∃ te pe,ev=.iface te pe):=by
 obtain ⟨ps,⟨g0,t0,cs0,f0,p0,q0,hg0,ht0,hv0,hd0,_,e0⟩,_,hrows⟩:=h
 obtain rfl:=Option.some.inj (hg.symm.trans hg0)
 obtain rfl:=Option.some.inj (ht.symm.trans ht0)
 obtain ⟨f1,u,v,hc,hn,h1⟩:=iface_of_trod hi hd0
 refine ⟨.iface u v,?_,.inr ⟨u,v,Z⟩⟩
 have:=World.var?_cell hg0 hv0 0
 rw [this]
 have h2:=congrArg List.head? hc
 obtain ⟨l0⟩:=cs0
 rw [List.head?_eq_getElem?] at h2
 simpa using h2
theorem some_cell {n:String} {d:DataW Unit} {r:List (String×DataW Unit)} {W:World} {g:Nat} (h:laidMet prog ((n,d)::r) W) (hg:prog.globalNamed n=some g):g < W.heap.size:=by
 obtain ⟨ps,⟨g0,t0,cs0,f0,p0,q0,hg0,ht0,hv0,hd0,_,e0⟩,_,hrows⟩:=h
 obtain rfl:=Option.some.inj (hg.symm.trans hg0)
 unfold World.var? at hv0
 rw [hg] at hv0
 simp only [Option.bind_some] at hv0
 rcases Nat.lt_or_ge g W.heap.size with h9 | h9
 ·exact h9
 ·rw [Array.getElem?_eq_none h9] at hv0
  cases hv0
theorem of_laidT {W:World} (h:laidMetH prog laidT W) (hs:W.ShapedOpen prog):StrW W:=by
 rw [MakeChecks.laidMetH_plain _ _ _ (by kernel_rfl)] at h
 have h1 : laidMet prog (("math/bits.deBruijn64tab", Rows.laid_math_bits_deBruijn64tab) :: _) W := h.tail
 have h2 : laidMet prog (("internal/strconv.uint64pow10", Lib.tabData .u64 Lib.pow10Tab) :: _) W := h1.tail
 have h3:=h2.tail.tail
 have h4:=h3.tail
 refine ⟨Lib.tabIs_of_head gPow (t:=334) (e:=84) (n:=20) (by kernel_rfl) (by kernel_rfl) (by kernel_rfl) (by kernel_rfl) (by kernel_rfl) h2,?_,iface_cell h4 gSyn (ti:=133) (by kernel_rfl) underlying133,iface_cell h3 gRng (ti:=133) (by kernel_rfl) underlying133,some_cell h1 g64⟩
 exact cell_of_shapedOpen_int (t:=3) (zero:=#[.int .i64 0]) hs (of_decide_eq_true (by kernel_rfl)) (by kernel_rfl) Z (by kernel_rfl) (by kernel_rfl) underlying3
section
variable {H:Type} {enc:TypeId×Value→H} {W:World}
theorem read_str {v:Value} {d:DataW H} {ps:List MemPlace} {b0:Nat} (hv:Value.okWide prog W .any b0 9 v) (h:DataW.Trod enc prog W 0 (fun _=>true) true 9 v d ps):∃ l:List UInt8,v=sv l:=by
 obtain ⟨fuel,hf⟩:=h
 obtain ⟨s,hs,-,-⟩:=DataW.trod_string underlying9 hf
 unfold Value.okWide at hv
 simp only [underlying9] at hv
 unfold Cell.okWide at hv
 cases v <;> simp [Value.cells,Cell.ok,underlying9] at hv hs
 rename_i a
 exact ⟨a.data.toList,Z⟩
theorem read_byte {v:Value} {d:DataW H} {ps:List MemPlace} {b0:Nat} (hv:Value.okWide prog W .any b0 5 v) (h:DataW.Trod enc prog W 0 (fun _=>true) true 5 v d ps):∃ b:UInt8,v=.int .u8 ((b.toNat:Nat):Int):=by
 obtain ⟨n,rfl,_,_,hw⟩:=open_int underlying5 hv h
 simp [Lit.wf,IntKind.min,IntKind.max,IntKind.bits,IntKind.signed] at hw
 refine ⟨UInt8.ofNat n.toNat,?_⟩
 have:(UInt8.ofNat n.toNat).toNat=n.toNat:=by
  rw [UInt8.toNat_ofNat']
  omega
 rw [this]
 congr 1
 omega
theorem returnsT {a:Assume} {C:Checked} {os:Os} {f:FuncId} {fn:Func} {s:ChangeSpec} {conds:List PathCond} {apart fresh handsOn again:Bool} {X:World→Array Value→Prop}
  (hX:∀ (w w':World) (args:Array Value),w.heap=w'.heap→X w args→X w' args)
  (own:ownKnob C.prog.godebug=none) (started:os.Started) (noInit:C.prog.inits.idxOf? f=none) (hfn:C.prog.funcs[f]? = some fn)
  (witness:∃ (w:World) (tape:Tape) (i:Input),w.os=os∧(w.forCall tape i).Shaped C.prog∧i.vars=[]∧Input.okWide C.prog (w.forCall tape i) .any w.heap.size f i ∧
   ((s.pre enc C.prog fn conds apart (w.forCall tape i).memory i.args∧X (w.forCall tape i).memory i.args)∧sizedMet enc C.prog fn (OpenSpec.ofChange s) apart (w.forCall tape i).memory i.args)∧a.holds C.prog (lone (Frame.enter C.prog f i.args .normal) [] (w.forCall tape i)))
  (contract:∀ (W:World) (base:Nat) (args:Array Value) (ds gs:List (DataW H)) (before:List MemPlace),
   (∀ (j:Nat) t v,fn.params[j]? = some t→args[j]? = some v→Value.okWide C.prog W .any base t v) →
   DataW.Whole enc C.prog fn.params.toList s.vars apart W args.toList ds gs before →
   X W args→W.ShapedOpen C.prog →
   Calls C.prog f args W fun e W'=>∃ v,e=.returned v∧s.post enc C.prog fn apart fresh handsOn again W args v W') :
  ReturnsInHanded a C os f .any (fun w args=>(s.pre enc C.prog fn conds apart w args∧X w args)∧sizedMet enc C.prog fn (OpenSpec.ofChange s) apart w args) (s.post enc C.prog fn apart fresh handsOn again):=by
 refine returnsInHanded_of_calls own started noInit witness ?_
 intro w tape i _ hsh _ hok hpre hholds
 obtain ⟨_,_,_,fn',hfn',_,_,_,_,hval⟩:=hok
 have e:fn'=fn:=Option.some.inj (hfn'.symm.trans hfn)
 subst e
 obtain ⟨⟨⟨ds,gs,before,hw,hc⟩,hx⟩,hz⟩:=hpre
 have hw':=DataW.Whole.of_heap (w':=w.forCall tape i) (by rfl) hw
 refine (contract (w.forCall tape i) w.heap.size i.args ds gs before hval hw' (hX _ _ _ (by rfl) hx) hsh).mono fun e W' ⟨v,he,hp⟩=>?_
 subst he
 exact ChangeSpec.post_blind hp
end
theorem start_shT (os:Os) (args:Array Value):((World.laidAll prog os laidT).forCall (fun _ _=>0) ⟨#[],args,[]⟩).Shaped prog:=World.shaped_of_ZipB (by kernel_rfl) (by kernel_rfl)
theorem start_metT (os:Os) (args:Array Value):laidMetH prog laidT ((World.laidAll prog os laidT).forCall (fun _ _=>0) ⟨#[],args,[]⟩).memory:=by
 rw [MakeChecks.laidMetH_plain _ _ _ (by kernel_rfl)]
 exact laidMet_laidAll _ (by kernel_rfl) (by kernel_rfl)
end
section
open Go Go.Lib
theorem spl_pos (c:UInt8) (s:List UInt8):0 < (spl c s).length:=by
 have:=spl_ne c s
 cases h:spl c s with
 | nil=>exact absurd h this
 | cons x l=>simp
end
section
open Go Go.Lib
structure Kd where
 word:List UInt8
 rg:Nat
 nm:Nat
inductive RdE where
 | bad (row:Nat)
 | ok (done:Bool) (l:List (Nat×List Int))
def RdE.cons (x:Nat×List Int):RdE→RdE
 | .bad n=>.bad n
 | .ok d l=>.ok d (x::l)
section
variable (K0 K1 K2 K3:Kd)
end
section
variable {K0 K1 K2 K3:Kd}
end
end
section
open Go Go.Lib
def joinC (c:UInt8):List (List UInt8)→List UInt8
 | []=>[]
 | [x]=>x
 | x::y::l=>x++c::joinC c (y::l)
theorem spl_app {c:UInt8} {a r:List UInt8} (h:c ∉ a):spl c (a++c::r)=a::spl c r:=by
 induction a with
 | nil=>show spl c (c::r)=_;rw [spl,if_pos rfl]
 | cons b a ih =>
  rw [Zx7,not_or] at h
  show spl c (b::(a++c::r))=_
  rw [spl,if_neg (fun e=>h.1 e.symm),ih h.2]
abbrev sm (v:Int):Prop:=-999≤v∧v≤999
theorem numP_it {v:Int} (h:sm v):numP (it3 v)=some v:=numP_iff.2 ⟨h,rfl⟩
end
section
open Go Go.Lib
def cut2:List UInt8→Option (List UInt8×List UInt8)
 | []=>none
 | [_]=>none
 | b::d::q=>if b=46∧d=46 then some ([],q) else (cut2 (d::q)).map fun x=>(b::x.1,x.2)
theorem pre2 {b d:UInt8} {q:List UInt8}:([46,46]:List UInt8).isPrefixOf (b::d::q)=true↔b=46∧d=46:=by
 simp only [List.isPrefixOf,Bool.and_eq_true,beq_iff_eq,and_true]
 exact ⟨fun h=>⟨h.1.symm,h.2.symm⟩,fun h=>⟨h.1.symm,h.2.symm⟩⟩
theorem index_no {sub r:List UInt8} {b:UInt8} (h : ¬ sub.isPrefixOf (b::r)=true):index (b::r) sub=if index r sub = -1 then -1 else index r sub+1:=by
 rw [index,if_neg h]
 by_cases h1:index r sub = -1
 · rw [if_pos (beq_iff_eq.2 h1),if_pos h1]
 · rw [if_neg (fun e=>h1 (beq_iff_eq.1 e)),if_neg h1]
theorem index_two:∀ p:List UInt8,index p [46,46]=match cut2 p with
  | some x=>(x.1.length:Int)
  | none=>-1
 | []=>by rfl
 | [b]=>by
  rw [index_no (by simp [List.isPrefixOf])]
  rfl
 | b::d::q=>by
  have ih:=index_two (d::q)
  unfold cut2
  by_cases h:b=46∧d=46
  ·rw [if_pos h,index,if_pos (pre2.2 h)]
   rfl
  ·rw [if_neg h,index_no (fun e=>h (pre2.1 e)),ih]
   cases cut2 (d::q) with
   | none=>rfl
   | some x =>
    show (if ((x.1.length:Int) = -1) then (-1:Int) else (x.1.length:Int)+1)=((b::x.1).length:Int)
    rw [if_neg (by omega),Zx1]
    omega
theorem cut2_spec:∀ {p a z:List UInt8},cut2 p=some (a,z)→p=a++46::46::z
 | [],a,z,h=>by cases h
 | [b],a,z,h=>by cases h
 | b::d::q,a,z,h=>by
  unfold cut2 at h
  split at h
  ·rename_i hc
   injection h with h
   injection h with h1 h2
   subst h1 h2
   rw [hc.1,hc.2]
   rfl
  ·obtain ⟨x,hx,e⟩:=Option.map_eq_some_iff.1 h
   injection e with e1 e2
   subst e1 e2
   have:=cut2_spec (a:=x.1) (z:=x.2) hx
   rw [this]
   rfl
theorem cut_two (p:List UInt8):cut p [46,46]=match cut2 p with
  | some x=>(x.1,x.2,true)
  | none=>(p,[],false):=by
 unfold cut
 rw [index_two]
 cases h:cut2 p with
 | none=>rfl
 | some x =>
  obtain ⟨a,z⟩:=x
  have hp:=cut2_spec h
  dsimp only
  rw [if_pos (Int.natCast_nonneg _)]
  have e1:((a.length:Nat):Int).toNat=a.length:=Int.toNat_natCast _
  rw [e1,hp]
  simp
theorem cut2_app:∀ {a r:List UInt8},46 ∉ a→cut2 (a++46::46::r)=some (a,r)
 | [],r,_=>by
  show cut2 (46::46::r)=_
  unfold cut2
  rw [if_pos ⟨rfl,rfl⟩]
 | [b],r,h=>by
  have hb:b≠46:=fun e=>h (by rw [e];simp)
  show cut2 (b::46::46::r)=_
  unfold cut2
  rw [if_neg (fun e=>hb e.1),show cut2 (46::46::r)=some ([],r) from cut2_app (a:=[]) (by simp)]
  rfl
 | b::d::a,r,h=>by
  have hb:b≠46:=fun e=>h (by rw [e];simp)
  have ih:=cut2_app (a:=d::a) (r:=r) (fun e=>h (Zz1 e))
  show cut2 (b::d::(a++46::46::r))=_
  unfold cut2
  rw [if_neg (fun e=>hb e.1),show cut2 (d::(a++46::46::r))=some (d::a,r) from ih]
  rfl
theorem cut2_drop {p:List UInt8}:∀ {k:Nat},(∀ j,j < k→¬ (p[j]? = some 46∧p[j+1]? = some 46))→cut2 p=(cut2 (p.drop k)).map fun x=>(p.take k++x.1,x.2):=by
 intro k
 induction k with
 | zero=>intro _;rw [List.drop_zero,List.take_zero];cases cut2 p <;> rfl
 | succ k ih =>
   intro h
   rw [ih fun j hj=>h j (by omega)]
   have hk:=h k (by omega)
   cases h1:p.drop k with
   | nil =>
     have:p.drop (k+1)=[]:=by rw [← List.drop_drop,h1];rfl
     rw [this]
     rfl
   | cons b r =>
     have hb:p[k]? = some b:=by
       have:=congrArg (·[0]?) h1
       simpa using this
     have hd:p.drop (k+1)=r:=by rw [← List.drop_drop,h1];rfl
     have ht:p.take (k+1)=p.take k++[b]:=by rw [List.take_add_one,hb];rfl
     rw [hd,ht]
     cases r with
     | nil=>rfl
     | cons d q =>
       have hd2:p[k+1]? = some d:=by
         have:=congrArg (·[1]?) h1
         simpa using this
       have e9:cut2 (b::d::q)=(cut2 (d::q)).map fun x=>(b::x.1,x.2):=by
         rw [cut2,if_neg (fun e=>hk ⟨by rw [hb,e.1],by rw [hd2,e.2]⟩)]
       rw [e9]
       cases cut2 (d::q) with
       | none=>rfl
       | some x=>simp
def rangeQ (p:List UInt8):Option (List Int):=match cut2 p with
 | some x=>(match numP x.1,numP x.2 with
  | some a,some b=>some [a,b]
  | _,_=>none)
 | none=>none
def wordQ (rg:Bool) (p:List UInt8):Option (List Int):=if rg=true then rangeQ p else (numP p).map ([·])
theorem fin_free2:∀ u:Fin 1000,(46:UInt8) ∉ dd3 u.val∧(44:UInt8) ∉ dd3 u.val:=by decide +kernel
theorem it3_free2 {v:Int} (h:sm v):(46:UInt8) ∉ it3 v∧(44:UInt8) ∉ it3 v:=by
 unfold it3
 split
 ·have:=fin_free2 ⟨v.natAbs,by omega⟩
  simp only [Zx7,not_or]
  exact ⟨⟨by decide,this.1⟩,by decide,this.2⟩
 ·exact fin_free2 ⟨v.toNat,by omega⟩
theorem wordQ_one {p:List UInt8} {x:List Int}:wordQ false p=some x↔∃ a,sm a∧x=[a]∧p=it3 a:=by
 unfold wordQ
 rw [if_neg (by decide)]
 constructor
 ·intro h
  obtain ⟨a,ha,rfl⟩:=Option.map_eq_some_iff.1 h
  obtain ⟨hb,e⟩:=numP_iff.1 ha
  exact ⟨a,hb,Z,e⟩
 ·rintro ⟨a,ha,rfl,rfl⟩
  rw [numP_it ha];rfl
theorem wordQ_two {p:List UInt8} {x:List Int}:wordQ true p=some x↔∃ a b,sm a∧sm b∧x=[a,b]∧p=it3 a++46::46::it3 b:=by
 unfold wordQ rangeQ
 rw [if_pos rfl]
 constructor
 ·intro h
  cases hc:cut2 p with
  | none=>rw [hc] at h;cases h
  | some y =>
   obtain ⟨y1,y2⟩:=y
   rw [hc] at h
   dsimp only at h
   cases h1:numP y1 with
   | none=>rw [h1] at h;cases h
   | some a =>
    cases h2:numP y2 with
    | none=>rw [h1,h2] at h;cases h
    | some b =>
     rw [h1,h2] at h
     injection h with h
     obtain ⟨k1,e1⟩:=numP_iff.1 h1
     obtain ⟨k2,e2⟩:=numP_iff.1 h2
     exact ⟨a,b,k1,k2,h.symm,by rw [cut2_spec hc,e1,e2]⟩
 ·rintro ⟨a,b,ha,hb,rfl,rfl⟩
  rw [cut2_app (it3_free2 ha).1]
  dsimp only
  rw [numP_it ha,numP_it hb]
def valsQ:List Bool→List (List UInt8)→Option (List Int)
 | [],[]=>some []
 | f::fs,p::ws=>match wordQ f p,valsQ fs ws with
  | some a,some r=>some (a++r)
  | _,_=>none
 | _,_=>none
def lenF:List Bool→Nat
 | []=>0
 | true::fs=>lenF fs+2
 | false::fs=>lenF fs+1
def vt:List Bool→List Int→List (List UInt8)
 | true::fs,a::b::xs=>(it3 a++46::46::it3 b)::vt fs xs
 | false::fs,a::xs=>it3 a::vt fs xs
 | _,_=>[]
theorem valsQ_iff:∀ {fm:List Bool} {ws:List (List UInt8)} {xs:List Int},valsQ fm ws=some xs↔xs.length=lenF fm∧(∀ v∈xs,sm v)∧ws=vt fm xs
 | [],[],xs=>by
  constructor
  ·intro h;cases h;exact ⟨rfl,fun v hv=>(by cases hv),rfl⟩
  ·rintro ⟨h,-,-⟩
   rw [List.length_eq_zero_iff.1 h];rfl
 | [],p::ws,xs=>by
  constructor
  ·intro h;cases h
  ·rintro ⟨h,-,h3⟩
   cases xs <;> cases h3
 | f::fs,[],xs=>by
  constructor
  ·intro h;cases f <;> cases h
  ·rintro ⟨h,-,h3⟩
   cases f with
   | false =>
    match xs,h with
    | a::r,_=>cases h3
   | true =>
    match xs,h with
    | [a],h=>simp only [lenF,Zx1,Zx2] at h;omega
    | a::b::r,_=>cases h3
 | false::fs,p::ws,xs=>by
  have ih:=fun ys=>valsQ_iff (fm:=fs) (ws:=ws) (xs:=ys)
  constructor
  ·intro h
   unfold valsQ at h
   split at h
   ·rename_i a r h1 h2
    injection h with h
    subst h
    obtain ⟨v,hv,rfl,rfl⟩:=wordQ_one.1 h1
    obtain ⟨k1,k2,rfl⟩:=(ih r).1 h2
    refine ⟨by simp only [Zx3,Zx1,Zx2,lenF];omega,fun u hu=>?_,Z⟩
    rcases Zx7.1 hu with rfl | hu
    ·exact hv
    ·exact k2 u hu
   ·cases h
  ·rintro ⟨h1,h2,h3⟩
   match xs,h1 with
   | a::r,h1 =>
    injection h3 with e1 e2
    unfold valsQ
    rw [wordQ_one.2 ⟨a,h2 a Zz2,rfl,e1⟩,(ih r).2 ⟨by simp only [lenF,Zx1] at h1;omega,fun v hv=>h2 v (Zz1 hv),e2⟩]
    rfl
 | true::fs,p::ws,xs=>by
  have ih:=fun ys=>valsQ_iff (fm:=fs) (ws:=ws) (xs:=ys)
  constructor
  ·intro h
   unfold valsQ at h
   split at h
   ·rename_i a r h1 h2
    injection h with h
    subst h
    obtain ⟨v,u,hv,hu,rfl,rfl⟩:=wordQ_two.1 h1
    obtain ⟨k1,k2,rfl⟩:=(ih r).1 h2
    refine ⟨by simp only [Zx3,Zx1,Zx2,lenF];omega,fun y hy=>?_,Z⟩
    rcases Zx7.1 hy with rfl | hy
    ·exact hv
    ·rcases Zx7.1 hy with rfl | hy
     ·exact hu
     ·exact k2 y hy
   ·cases h
  ·rintro ⟨h1,h2,h3⟩
   match xs,h1 with
   | [a],h1=>simp only [lenF,Zx1,Zx2] at h1;omega
   | a::b::r,h1 =>
    injection h3 with e1 e2
    unfold valsQ
    rw [wordQ_two.2 ⟨a,b,h2 a (by simp),h2 b (by simp),rfl,e1⟩,(ih r).2 ⟨by simp only [lenF,Zx1] at h1;omega,fun v hv=>h2 v (Zz1 (Zz1 hv)),e2⟩]
    rfl
structure Kv where
 word:List UInt8
 form:List Bool
def Kv.rd (k:Kv) (s:List UInt8):Option (List Int):=match spl 44 s with
 | []=>none
 | w::ws=>if w=k.word then valsQ k.form ws else none
def preV (k:Kv) (s:List UInt8):Bool:=(k.word++[44]).isPrefixOf s
theorem rdv_pre {k:Kv} (hf:k.form≠[]) {s:List UInt8} {x:List Int} (h:k.rd s=some x):preV k s=true:=by
 unfold Kv.rd at h
 unfold preV
 rw [List.isPrefixOf_iff_prefix]
 rcases cut_spl 44 s with ⟨-,-,e⟩ | ⟨a,r,-,rfl,-,e⟩
 ·rw [e] at h
  dsimp only at h
  split at h
  ·cases hk:k.form with
   | nil=>exact absurd hk hf
   | cons f fs=>rw [hk] at h;cases f <;> cases h
  ·cases h
 ·rw [e] at h
  dsimp only at h
  split at h
  ·rename_i hc
   exact ⟨r,by rw [hc];simp⟩
  ·cases h
section
variable (KL KA KB KF:Kv)
def kvAt:Nat→Kv
 | 0=>KL
 | 1=>KA
 | 2=>KB
 | _=>KF
def nxV (at':Nat) (s:List UInt8):Nat:=if at'=1 then (if preV KA s=true then 1 else if preV KB s=true then 2 else 3) else if at'=2 then (if preV KB s=true then 2 else 3) else at'
def progV:Nat→Nat→List (List UInt8)→RdE
 | at',_,[]=>.ok (decide (4≤at')) []
 | at',i,s::ls =>
  if 4≤nxV KA KB at' s then .bad (i+1)
  else match (kvAt KL KA KB KF (nxV KA KB at' s)).rd s with
   | none=>.bad (i+1)
   | some x=>(progV (if nxV KA KB at' s=0∨nxV KA KB at' s=3 then nxV KA KB at' s+1 else nxV KA KB at' s) (i+1) ls).cons (nxV KA KB at' s,x)
def lineR (s:List UInt8):Option (Nat×List Int):=match spl 44 s with
 | []=>none
 | w::ws=>if w=KL.word then (valsQ KL.form ws).map (0,·) else if w=KA.word then (valsQ KA.form ws).map (1,·) else if w=KB.word then (valsQ KB.form ws).map (2,·) else if w=KF.word then (valsQ KF.form ws).map (3,·) else none
def refV:Int→Nat→List (List UInt8)→RdE
 | bf,_,[]=>.ok (decide (bf=3)) []
 | bf,i,s::ls=>match lineR KL KA KB KF s with
  | none=>.bad (i+1)
  | some x=>if (x.1:Int) < bf∨bf=3∨(decide (x.1=0)≠decide (i=0)) then .bad (i+1) else (refV x.1 (i+1) ls).cons x
structure KOk:Prop where
 ne:KL.form≠[]∧KA.form≠[]∧KB.form≠[]∧KF.form≠[]
 d01:KL.word≠KA.word
 d02:KL.word≠KB.word
 d03:KL.word≠KF.word
 d12:KA.word≠KB.word
 d13:KA.word≠KF.word
 d23:KB.word≠KF.word
 free:(44:UInt8) ∉ KL.word∧(44:UInt8) ∉ KA.word∧(44:UInt8) ∉ KB.word∧(44:UInt8) ∉ KF.word
end
section
variable {KL KA KB KF:Kv}
theorem pre_word {k:Kv} (hk:(44:UInt8) ∉ k.word) {s:List UInt8} (h:preV k s=true):∃ ws,spl 44 s=k.word::ws:=by
 unfold preV at h
 rw [List.isPrefixOf_iff_prefix] at h
 obtain ⟨r,rfl⟩:=h
 rw [List.append_assoc]
 show ∃ ws,spl 44 (k.word++44::r)=_
 exact ⟨_,spl_app hk⟩
theorem lineR_iff (H:KOk KL KA KB KF) {s:List UInt8} {k:Nat} {x:List Int}:lineR KL KA KB KF s=some (k,x)↔k≤3∧(kvAt KL KA KB KF k).rd s=some x:=by
 unfold lineR
 have key:∀ j,(kvAt KL KA KB KF j).rd s=match spl 44 s with
  | []=>none
  | w::ws=>if w=(kvAt KL KA KB KF j).word then valsQ (kvAt KL KA KB KF j).form ws else none:=fun j=>rfl
 cases hs:spl 44 s with
 | nil=>exact absurd hs (spl_ne 44 s)
 | cons w ws =>
  have key2:∀ j,(kvAt KL KA KB KF j).rd s=if w=(kvAt KL KA KB KF j).word then valsQ (kvAt KL KA KB KF j).form ws else none:=fun j=>by rw [key j,hs]
  rw [key2 k]
  dsimp only
  have mk:∀ (o:Option (List Int)) (j:Nat),o.map (fun q=>(j,q))=some (k,x)↔k=j∧o=some x:=by
   intro o j
   cases o with
   | none=>exact ⟨fun h=>(by cases h),fun h=>(by cases h.2)⟩
   | some y =>
    constructor
    ·intro h
     injection h with h
     injection h with h1 h2
     exact ⟨h1.symm,by rw [h2]⟩
    ·rintro ⟨rfl,h⟩
     injection h with h
     rw [h];rfl
  have k4:∀ {p:Prop},(k≤3→p)→k≤3→p:=fun h=>h
  by_cases h0:w=KL.word
  ·subst h0
   rw [if_pos rfl,mk]
   constructor
   ·rintro ⟨rfl,h⟩
    exact ⟨by omega,by rw [if_pos (show KL.word=(kvAt KL KA KB KF 0).word from Z)];exact h⟩
   ·rintro ⟨h3,h⟩
    split at h
    ·rename_i hc
     match k,h3,hc with
     | 0,_,_=>exact ⟨rfl,h⟩
     | 1,_,hc=>exact absurd hc H.d01
     | 2,_,hc=>exact absurd hc H.d02
     | 3,_,hc=>exact absurd hc H.d03
    ·cases h
  ·rw [if_neg h0]
   by_cases h1:w=KA.word
   ·subst h1
    rw [if_pos rfl,mk]
    constructor
    ·rintro ⟨rfl,h⟩
     exact ⟨by omega,by rw [if_pos (show KA.word=(kvAt KL KA KB KF 1).word from Z)];exact h⟩
    ·rintro ⟨h3,h⟩
     split at h
     ·rename_i hc
      match k,h3,hc with
      | 0,_,hc=>exact absurd hc.symm H.d01
      | 1,_,_=>exact ⟨rfl,h⟩
      | 2,_,hc=>exact absurd hc H.d12
      | 3,_,hc=>exact absurd hc H.d13
     ·cases h
   ·rw [if_neg h1]
    by_cases h2:w=KB.word
    ·subst h2
     rw [if_pos rfl,mk]
     constructor
     ·rintro ⟨rfl,h⟩
      exact ⟨by omega,by rw [if_pos (show KB.word=(kvAt KL KA KB KF 2).word from Z)];exact h⟩
     ·rintro ⟨h3,h⟩
      split at h
      ·rename_i hc
       match k,h3,hc with
       | 0,_,hc=>exact absurd hc.symm H.d02
       | 1,_,hc=>exact absurd hc.symm H.d12
       | 2,_,_=>exact ⟨rfl,h⟩
       | 3,_,hc=>exact absurd hc H.d23
      ·cases h
    ·rw [if_neg h2]
     by_cases h3:w=KF.word
     ·subst h3
      rw [if_pos rfl,mk]
      constructor
      ·rintro ⟨rfl,h⟩
       exact ⟨by omega,by rw [if_pos (show KF.word=(kvAt KL KA KB KF 3).word from Z)];exact h⟩
      ·rintro ⟨h3,h⟩
       split at h
       ·rename_i hc
        match k,h3,hc with
        | 0,_,hc=>exact absurd hc.symm H.d03
        | 1,_,hc=>exact absurd hc.symm H.d13
        | 2,_,hc=>exact absurd hc.symm H.d23
        | 3,_,_=>exact ⟨rfl,h⟩
       ·cases h
     ·rw [if_neg h3]
      constructor
      ·intro h;cases h
      ·rintro ⟨h4,h⟩
       split at h
       ·rename_i hc
        match k,h4,hc with
        | 0,_,hc=>exact absurd hc h0
        | 1,_,hc=>exact absurd hc h1
        | 2,_,hc=>exact absurd hc h2
        | 3,_,hc=>exact absurd hc h3
       ·cases h
theorem lineR_pre (H:KOk KL KA KB KF) {s:List UInt8} {k:Nat} {x:List Int} (h:lineR KL KA KB KF s=some (k,x)):k≤3∧preV (kvAt KL KA KB KF k) s=true:=by
 obtain ⟨h1,h2⟩:=(lineR_iff H).1 h
 refine ⟨h1,rdv_pre ?_ h2⟩
 match k,h1 with
 | 0,_=>exact H.ne.1
 | 1,_=>exact H.ne.2.1
 | 2,_=>exact H.ne.2.2.1
 | 3,_=>exact H.ne.2.2.2
theorem kv_free (H:KOk KL KA KB KF):∀ k,(44:UInt8) ∉ (kvAt KL KA KB KF k).word
 | 0=>H.free.1
 | 1=>H.free.2.1
 | 2=>H.free.2.2.1
 | _+3=>H.free.2.2.2
theorem pre_one (H:KOk KL KA KB KF) {s:List UInt8} {j k:Nat} (hj:j≤3) (hk:k≤3) (h1:preV (kvAt KL KA KB KF j) s=true) (h2:preV (kvAt KL KA KB KF k) s=true):j=k:=by
 obtain ⟨a,ha⟩:=pre_word (kv_free H j) h1
 obtain ⟨b,hb⟩:=pre_word (kv_free H k) h2
 rw [ha] at hb
 injection hb with hb
 match j,hj,k,hk,hb with
 | 0,_,0,_,_=>rfl
 | 1,_,1,_,_=>rfl
 | 2,_,2,_,_=>rfl
 | 3,_,3,_,_=>rfl
 | 0,_,1,_,hb=>exact absurd hb H.d01
 | 0,_,2,_,hb=>exact absurd hb H.d02
 | 0,_,3,_,hb=>exact absurd hb H.d03
 | 1,_,0,_,hb=>exact absurd hb.symm H.d01
 | 1,_,2,_,hb=>exact absurd hb H.d12
 | 1,_,3,_,hb=>exact absurd hb H.d13
 | 2,_,0,_,hb=>exact absurd hb.symm H.d02
 | 2,_,1,_,hb=>exact absurd hb.symm H.d12
 | 2,_,3,_,hb=>exact absurd hb H.d23
 | 3,_,0,_,hb=>exact absurd hb.symm H.d03
 | 3,_,1,_,hb=>exact absurd hb.symm H.d13
 | 3,_,2,_,hb=>exact absurd hb.symm H.d23
theorem step_same (H:KOk KL KA KB KF) {s:List UInt8} {k:Nat} {bf:Int} {i a':Nat} {ls:List (List UInt8)} (hk:k≤3)
  (hin : ¬ ((k:Int) < bf∨bf=3∨(decide (k=0)≠decide (i=0))))
  (hout:∀ j,j≤3→j≠k→preV (kvAt KL KA KB KF j) s=true→(j:Int) < bf∨bf=3∨(decide (j=0)≠decide (i=0)))
  (ih:progV KL KA KB KF a' (i+1) ls=refV KL KA KB KF (k:Int) (i+1) ls) :
  (match (kvAt KL KA KB KF k).rd s with | none=>RdE.bad (i+1) | some x=>(progV KL KA KB KF a' (i+1) ls).cons (k,x))=refV KL KA KB KF bf i (s::ls):=by
 rw [refV]
 cases h:(kvAt KL KA KB KF k).rd s with
 | some x =>
  rw [(lineR_iff H).2 ⟨hk,h⟩]
  dsimp only
  rw [if_neg hin,ih]
 | none =>
  cases h2:lineR KL KA KB KF s with
  | none=>rfl
  | some y =>
   obtain ⟨j,y⟩:=y
   obtain ⟨h3,h4⟩:=lineR_pre H h2
   dsimp only
   rw [if_pos]
   refine hout j h3 (fun e=>?_) h4
   subst e
   rw [((lineR_iff H).1 h2).2] at h
   cases h
theorem readV_same (H:KOk KL KA KB KF):∀ (ls:List (List UInt8)) (i:Nat),
  (i=0→progV KL KA KB KF 0 i ls=refV KL KA KB KF (-1) i ls)∧(1≤i→progV KL KA KB KF 1 i ls=refV KL KA KB KF ((0:Nat):Int) i ls∧progV KL KA KB KF 1 i ls=refV KL KA KB KF ((1:Nat):Int) i ls ∧
   progV KL KA KB KF 2 i ls=refV KL KA KB KF ((2:Nat):Int) i ls∧progV KL KA KB KF 4 i ls=refV KL KA KB KF ((3:Nat):Int) i ls)
 | [],i=>⟨fun _=>rfl,fun _=>⟨rfl,rfl,rfl,rfl⟩⟩
 | s::ls,i=>by
  have ih:=readV_same H ls (i+1)
  have ih:=ih.2 (by omega)
  refine ⟨fun h=>?_,fun h=>?_⟩
  ·subst h
   rw [progV,show nxV KA KB 0 s=0 from rfl,if_neg (show ¬ 4≤0 by decide),if_pos (show (0:Nat)=0∨(0:Nat)=3 from .inl rfl)]
   exact step_same H (k:=0) (by omega) (by simp) (fun j h1 h2 _=>.inr (.inr (by simp [h2]))) ih.1
  ·have hno:decide (i=0)=false:=Zdf (by omega)
   have g3:∀ bf:Int,(bf=0∨bf=1∨bf=2)→∀ k,k≤3→bf≤(k:Int)→k≠0→¬ ((k:Int) < bf∨bf=3∨(decide (k=0)≠decide (i=0))):=by
    intro bf hbf k _ hk hk0
    rw [hno,Zdf hk0]
    rintro (h1 | h1 | h1)
    ·omega
    ·omega
    ·exact h1 Z
   have h0:∀ bf:Int,((0:Nat):Int) < bf∨bf=3∨(decide ((0:Nat)=0)≠decide (i=0)):=fun bf=>.inr (.inr (by rw [hno];decide))
   have one:∀ bf:Int,(bf=0∨bf=1)→progV KL KA KB KF 1 i (s::ls)=refV KL KA KB KF bf i (s::ls):=by
    intro bf hbf
    have hb3:bf=0∨bf=1∨bf=2:=by omega
    rw [progV]
    by_cases hA:preV KA s=true
    ·have e:nxV KA KB 1 s=1:=by unfold nxV;rw [if_pos rfl,if_pos hA]
     rw [e,if_neg (show ¬ 4≤1 by decide),if_neg (show ¬ ((1:Nat)=0∨(1:Nat)=3) by decide)]
     exact step_same H (k:=1) (by omega) (g3 bf hb3 1 (by omega) (by omega) (by omega)) (fun j h1 h2 h4=>absurd (pre_one H h1 (by omega:1≤3) h4 hA) h2) ih.2.1
    ·by_cases hB:preV KB s=true
     ·have e:nxV KA KB 1 s=2:=by unfold nxV;rw [if_pos rfl,if_neg hA,if_pos hB]
      rw [e,if_neg (show ¬ 4≤2 by decide),if_neg (show ¬ ((2:Nat)=0∨(2:Nat)=3) by decide)]
      exact step_same H (k:=2) (by omega) (g3 bf hb3 2 (by omega) (by omega) (by omega)) (fun j h1 h2 h4=>absurd (pre_one H h1 (by omega:2≤3) h4 hB) h2) ih.2.2.1
     ·have e:nxV KA KB 1 s=3:=by unfold nxV;rw [if_pos rfl,if_neg hA,if_neg hB]
      rw [e,if_neg (show ¬ 4≤3 by decide),if_pos (show (3:Nat)=0∨(3:Nat)=3 by decide)]
      refine step_same H (k:=3) (by omega) (g3 bf hb3 3 (by omega) (by omega) (by omega)) (fun j h1 h2 h4=>?_) ih.2.2.2
      match j,h1,h2,h4 with
      | 0,_,_,_=>exact h0 bf
      | 1,_,_,h4=>exact absurd h4 hA
      | 2,_,_,h4=>exact absurd h4 hB
      | 3,_,h2,_=>exact absurd rfl h2
   refine ⟨one _ (.inl Z),one _ (.inr Z),?_,?_⟩
   ·rw [progV]
    by_cases hB:preV KB s=true
    ·have e:nxV KA KB 2 s=2:=by unfold nxV;rw [if_neg (by decide),if_pos rfl,if_pos hB]
     rw [e,if_neg (show ¬ 4≤2 by decide),if_neg (show ¬ ((2:Nat)=0∨(2:Nat)=3) by decide)]
     exact step_same H (k:=2) (by omega) (g3 2 (by omega) 2 (by omega) (by omega) (by omega)) (fun j h1 h2 h4=>absurd (pre_one H h1 (by omega:2≤3) h4 hB) h2) ih.2.2.1
    ·have e:nxV KA KB 2 s=3:=by unfold nxV;rw [if_neg (by decide),if_pos rfl,if_neg hB]
     rw [e,if_neg (show ¬ 4≤3 by decide),if_pos (show (3:Nat)=0∨(3:Nat)=3 by decide)]
     refine step_same H (k:=3) (by omega) (g3 2 (by omega) 3 (by omega) (by omega) (by omega)) (fun j h1 h2 h4=>?_) ih.2.2.2
     match j,h1,h2,h4 with
     | 0,_,_,_=>exact h0 _
     | 1,_,_,_=>exact .inl (by decide)
     | 2,_,_,h4=>exact absurd h4 hB
     | 3,_,h2,_=>exact absurd rfl h2
   ·rw [progV,refV,show nxV KA KB 4 s=4 from rfl,if_pos (show 4≤4 from Nat.le_refl _)]
    cases lineR KL KA KB KF s with
    | none=>rfl
    | some x =>
     dsimp only
     rw [if_pos (.inr (.inl rfl))]
end
end
section
open Go Go.Lib
def lawW:List UInt8:=[108,97,119]
def lowW:List UInt8:=[108,111,119]
def highW:List UInt8:=[104,105,103,104]
def fileV:List UInt8:=[102,105,108,101]
abbrev KL:Kv:=⟨lawW,[false,false,false,false,false]⟩
abbrev KA:Kv:=⟨lowW,[true,true]⟩
abbrev KB:Kv:=⟨highW,[true,true]⟩
abbrev KF:Kv:=⟨fileV,[true,true,true,true,false,true,true,false]⟩
theorem kOk:KOk KL KA KB KF:=⟨⟨by simp,by simp,by simp,by simp⟩,by decide,by decide,by decide,by decide,by decide,by decide,by decide,by decide,by decide,by decide⟩
def zeroB:Bx:={ first:=0,step:=0,span:=0,press:=0,note:=0,lows:=[],highs:=[],t0:=0,t1:=0,r0:=0,r1:=0,u0:=0,u1:=0,d0:=0,d1:=0,a0:=0,a1:=0,b0:=0,b1:=0,le:=0,me:=0 }
def putV:Nat→List Int→Bx→Bx
 | 0,[a,b,c,d,e],x=>{ x with first:=a,step:=b,span:=c,press:=d,note:=e }
 | 1,[a,b,c,d],x=>{ x with lows:=x.lows++[⟨a,b,c,d⟩] }
 | 2,[a,b,c,d],x=>{ x with highs:=x.highs++[⟨a,b,c,d⟩] }
 | 3,[u0,u1,d0,d1,a0,a1,b0,b1,le,t0,t1,r0,r1,me],x=>{ x with u0:=u0,u1:=u1,d0:=d0,d1:=d1,a0:=a0,a1:=a1,b0:=b0,b1:=b1,le:=le,t0:=t0,t1:=t1,r0:=r0,r1:=r1,me:=me }
 | _,_,x=>x
def foldV (l:List (Nat×List Int)) (b:Bx):Bx:=l.foldl (fun b p=>putV p.1 p.2 b) b
def endV (rows:List (List UInt8)):RdE→Bx×Int×Int
 | .bad r=>(zeroB,(r:Int),2)
 | .ok d l=>if d=false∨rows.getLast?≠some [] then (zeroB,(rows.length:Int),2) else if checkB (foldV l zeroB)≠0 then (zeroB,0,checkB (foldV l zeroB)) else (foldV l zeroB,0,0)
def readV (t:List UInt8):Bx×Int×Int:=if 500 < t.length then (zeroB,0,10) else endV (spl 10 t) (progV KL KA KB KF 0 0 (spl 10 t).dropLast)
def readVR (t:List UInt8):Bx×Int×Int:=if 500 < t.length then (zeroB,0,10) else endV (spl 10 t) (refV KL KA KB KF (-1) 0 (spl 10 t).dropLast)
theorem readV_eq (t:List UInt8):readV t=readVR t:=by
 unfold readV readVR
 rw [(readV_same kOk (spl 10 t).dropLast 0).1 rfl]
def rgV:List (Int×Int)→List UInt8
 | []=>[]
 | p::l=>(44::(itoa p.1++[46,46]++itoa p.2))++rgV l
def nmV:List Int→List UInt8
 | []=>[]
 | a::l=>(44::itoa a)++nmV l
def sndT (w:List UInt8) (x:Snd):List UInt8:=w++rgV [(x.t0,x.t1),(x.s0,x.s1)]++[10]
def writeV (b:Bx):List UInt8 :=
 (lawW++nmV [b.first,b.step,b.span,b.press,b.note]++[10])++b.lows.flatMap (sndT lowW)++b.highs.flatMap (sndT highW) ++
  (fileV++rgV [(b.u0,b.u1),(b.d0,b.d1),(b.a0,b.a1),(b.b0,b.b1)]++nmV [b.le]++rgV [(b.t0,b.t1),(b.r0,b.r1)]++nmV [b.me]++[10])
def sndR (x:Snd):List Int:=[x.t0,x.t1,x.s0,x.s1]
def lineV:Nat×List Int→List UInt8
 | (k,xs)=>joinC 44 ((kvAt KL KA KB KF k).word::vt (kvAt KL KA KB KF k).form xs)
structure Bx.sm (b:Bx):Prop where
 one:∀ v∈[b.first,b.step,b.span,b.press,b.note],Go.Proofs.YtaikhendogcflaaGreatDoor.sm v
 lows:∀ x∈b.lows,∀ v∈sndR x,Go.Proofs.YtaikhendogcflaaGreatDoor.sm v
 highs:∀ x∈b.highs,∀ v∈sndR x,Go.Proofs.YtaikhendogcflaaGreatDoor.sm v
 file:∀ v∈[b.u0,b.u1,b.d0,b.d1,b.a0,b.a1,b.b0,b.b1,b.le,b.t0,b.t1,b.r0,b.r1,b.me],Go.Proofs.YtaikhendogcflaaGreatDoor.sm v
theorem Snd.good.sm {x:Snd} (h:x.good):∀ v∈sndR x,Go.Proofs.YtaikhendogcflaaGreatDoor.sm v:=by
 have h1:=h.t
 have h2:=h.s
 intro v hv
 simp only [sndR,Zx7,Zx8,or_false] at hv
 rcases hv with rfl | rfl | rfl | rfl <;> exact ⟨by omega,by omega⟩
theorem Bx.good.sm {b:Bx} (h:b.good):b.sm:=by
 have g:=good_of h.job
 have h1:=h.law.first
 have h2:=h.law.step
 have h3:=h.law.span
 have h4:=h.law.press
 have h5:=h.note
 have k1:=g.t
 have k2:=g.r
 have k3:=g.u
 have k4:=g.d
 have k5:=g.a
 have k6:=g.b
 have k7:=g.le
 have k8:=g.me
 simp only [Bx.law,blankJ] at h1 h2 h3 h4 k1 k2 k3 k4 k5 k6 k7 k8
 refine ⟨?_,fun x hx=>(h.lows.2 x hx).sm,fun x hx=>(h.highs.2 x hx).sm,?_⟩
 ·intro v hv
  simp only [Zx7,Zx8,or_false] at hv
  rcases hv with rfl | rfl | rfl | rfl | rfl <;> exact ⟨by omega,by omega⟩
 ·intro v hv
  simp only [Zx7,Zx8,or_false] at hv
  rcases hv with rfl | rfl | rfl | rfl | rfl | rfl | rfl | rfl | rfl | rfl | rfl | rfl | rfl | rfl <;> exact ⟨by omega,by omega⟩
theorem snds_lines {k:Nat} {w:List UInt8} (hk:∀ x:Snd,(∀ v∈sndR x,sm v)→lineV (k,sndR x)++[10]=sndT w x):∀ l:List Snd,(∀ x∈l,∀ v∈sndR x,sm v)→(l.map fun x=>lineV (k,sndR x)).flatMap (fun s=>s++[10])=l.flatMap (sndT w)
 | [],_=>rfl
 | x::l,h=>by
  rw [List.map_cons,List.flatMap_cons,List.flatMap_cons,snds_lines hk l fun y hy=>h y (Zz1 hy),hk x (h x Zz2)]
theorem itoa_len4 {v:Int} (h:sm v):(itoa v).length≤4:=by
 rw [it3_eq h]
 unfold it3 dd3
 split <;> split <;> (try split) <;> simp
theorem snds_len (w:List UInt8) (hw:w.length≤4):∀ l:List Snd,(∀ x∈l,∀ v∈sndR x,sm v)→(l.flatMap (sndT w)).length≤l.length * 27
 | [],_=>Nat.le_refl _
 | x::l,h=>by
  have h1:=h x Zz2
  have h2:=itoa_len4 (h1 x.t0 (by simp [sndR]))
  have h3:=itoa_len4 (h1 x.t1 (by simp [sndR]))
  have h4:=itoa_len4 (h1 x.s0 (by simp [sndR]))
  have h5:=itoa_len4 (h1 x.s1 (by simp [sndR]))
  have h6:=snds_len w hw l fun y hy=>h y (Zz1 hy)
  have e:(sndT w x).length≤27:=by
   simp only [sndT,rgV,Zx3,Zx1,Zx2]
   omega
  rw [List.flatMap_cons,Zx3,Zx1,Nat.succ_mul]
  omega
theorem writeV_len {b:Bx} (h:b.sm) (h4:b.lows.length≤4) (h5:b.highs.length≤5):(writeV b).length≤500:=by
 have h1:=fun v hv=>itoa_len4 (h.one v hv)
 have h2:=fun v hv=>itoa_len4 (h.file v hv)
 have k1:=snds_len lowW (by decide) b.lows h.lows
 have k2:=snds_len highW (by decide) b.highs h.highs
 have a1:=h1 b.first (by simp)
 have a2:=h1 b.step (by simp)
 have a3:=h1 b.span (by simp)
 have a4:=h1 b.press (by simp)
 have a5:=h1 b.note (by simp)
 have b1:=h2 b.u0 (by simp)
 have b2:=h2 b.u1 (by simp)
 have b3:=h2 b.d0 (by simp)
 have b4:=h2 b.d1 (by simp)
 have b5:=h2 b.a0 (by simp)
 have b6:=h2 b.a1 (by simp)
 have b7:=h2 b.b0 (by simp)
 have b8:=h2 b.b1 (by simp)
 have b9:=h2 b.le (by simp)
 have c1:=h2 b.t0 (by simp)
 have c2:=h2 b.t1 (by simp)
 have c3:=h2 b.r0 (by simp)
 have c4:=h2 b.r1 (by simp)
 have c5:=h2 b.me (by simp)
 unfold writeV
 rw [Zx3,Zx3,Zx3]
 obtain ⟨n9,e9⟩:∃ n,n=(b.lows.flatMap (sndT lowW)).length:=⟨_,rfl⟩
 obtain ⟨n8,e8⟩:∃ n,n=(b.highs.flatMap (sndT highW)).length:=⟨_,rfl⟩
 rw [← e9] at k1 ⊢
 rw [← e8] at k2 ⊢
 clear e9 e8 h1 h2
 simp only [lawW,fileV,rgV,nmV,Zx3,Zx1,Zx2]
 omega
end
section
open Go Go.Lib
theorem itoa_len {v:Int} (h:sm v):(itoa v).length≤4:=by
 rw [it3_eq h]
 unfold it3 dd3
 split <;> split <;> (try split) <;> simp
end
abbrev bxM (b:Bx) (s1 s2:Value):List Value:=[Zi b.first,Zi b.step,Zi b.span,Zi b.press,Zi b.note,s1,s2,Zi b.t0,Zi b.t1,Zi b.r0,Zi b.r1,Zi b.u0,Zi b.u1,Zi b.d0,Zi b.d1,Zi b.a0,Zi b.a1,Zi b.b0,Zi b.b1,Zi b.le,Zi b.me]
theorem rgV_snoc (l:List (Int×Int)) (x0 x1:Int):rgV (l++[(x0,x1)])=rgV l++(([44]++Lib.itoa x0++[46,46])++Lib.itoa x1):=by
 induction l with
 | nil=>simp [rgV]
 | cons p r ih=>rw [Zx6,rgV,rgV,ih];simp only [List.append_assoc]
theorem rgV_len:∀ (l:List (Int×Int)),(∀ p∈l,sm p.1∧sm p.2)→(rgV l).length≤l.length * 11
 | [],_=>Nat.le_refl _
 | p::r,h=>by
  have h1:=itoa_len (h p Zz2).1
  have h2:=itoa_len (h p Zz2).2
  have h3:=rgV_len r fun q hq=>h q (Zz1 hq)
  unfold rgV
  simp only [Zx3,Zx1,Zx2]
  omega
theorem nmV_snoc (l:List Int) (x:Int):nmV (l++[x])=nmV l++([44]++Lib.itoa x):=by
 induction l with
 | nil=>simp [nmV]
 | cons p r ih=>rw [Zx6,nmV,nmV,ih];simp only [List.append_assoc]
theorem nmV_len:∀ (l:List Int),(∀ p∈l,sm p)→(nmV l).length≤l.length * 5
 | [],_=>Nat.le_refl _
 | p::r,h=>by
  have h1:=itoa_len (h p Zz2)
  have h3:=nmV_len r fun q hq=>h q (Zz1 hq)
  unfold nmV
  simp only [Zx3,Zx1]
  omega
theorem sndT_len {w:List UInt8} (hw:w.length≤4):∀ (l:List Snd),(∀ x∈l,x.good)→(l.flatMap (sndT w)).length≤l.length * 27:=fun l h=>snds_len w hw l fun x hx=>(h x hx).sm
theorem take_sn {α:Type} {l:List α} {k:Nat} {x:α} (h:l[k]? = some x):l.take (k+1)=l.take k++[x]:=by rw [List.take_add_one,h];rfl
def wrV (b:Bx):List UInt8:=if checkB b=0 then writeV b else []
theorem vranges_any (A:Option Addr) (n c:Nat) (l:List (Int×Int)) (w:World) (hr:Rd w w.heap.size 2 A n (rc l)) (hn:n≤1000) (hl:∀ p∈l,sm p.1∧sm p.2) (hT:StrW w)  :
   Calls prog 41 #[.slice A n c] w fun e w'=>e=.returned (sv (rgV l))∧Below w.heap.size w w':=by
 have hll:=hr.len2
 obtain ⟨bJ,oJ,SJ⟩:=Sp.old hr
 refine Zpx noEx func41 Z 25 Z [.slice A n c] Z Z (Mem.init w _) ?_
 intro ac wc T M
 refine Zsr ?_
 refine lq T (Zra Z evc) ?_;intro ac T
 replace T:=T.pick [1] rfl
 refine Zln ?_
 refine Zsr ?_
 refine lq T (Zra Z evc) ?_;intro ac T
 refine Zln ?_
 refine wp_seq ?_
 refine Zsr ?_
 refine Zg3 T (Zq (Zrm Z (T.e 1 Z))) Z (Zl underlying57 0 Z Z) Z (fun _ T=>Zq (Zrm Z evc)) Z ?_;intro ac T
 replace T:=T.pick [0,1,2,3] rfl
 refine Zln ?_
 refine wp_block ?_
 refine wp_loop_n (fun mz ac wc=>∃ (k:Nat),mz=n - k∧(k≤n)∧((rgV (l.take k)).length≤k * 11)∧Tm ac 25 [(3,sv (rgV (l.take k))),(6,.slice A n c),(7,Zi ((n:Nat):Int)),(8,Zi (k:Int))]∧Mem w noEx wc []) ?_ ?_
 ·exact ⟨_,0,Z,(Nat.zero_le _),(Nat.le_refl _),T.pick [3,2,1,0] Z,M.mask [] Z⟩
 clear T M
 rintro mz ac wc ⟨k,hmm1,hk,hs,T,M⟩
 refine Zsr ?_
 refine lq T (rn_lss Z (T.e 3 Z) (T.e 2 Z)) ?_;intro ac T
 refine Zln ?_
 refine wp_seq ?_
 refine wp_if (T.e 0 Z) ?_ ?_
 ·intro h1
  obtain ⟨x0,x1,hkx,-⟩:=rc_next (l:=l) (k:=k) (by omega)
  have hx:=hl _ (List.mem_of_getElem? hkx)
  dsimp only at hx
  obtain ⟨⟨hx1,hx2⟩,hx3,hx4⟩:=hx
  refine Zsk ?_
  refine wp_seq ?_
  refine wp_block ?_
  refine Zsr ?_
  refine Zg2 (v2:=(.agg #[Zi x0,Zi x1])) T (Zq (Zri (size:=2) k Z (T.e 2 Z) (T.e 4 Z) ⟨_,underlying57,by kernel_rfl⟩ Z (by omega) (SJ.at0 (by omega)))) Z (fun _ T=>Zq (rn_rowat (Sp.rcR SJ M (Zz9 _) hkx) Z (T.e 0 Z) Z)) Z ?_;intro ac T
  refine Zl2 ?_
  refine Zoa M T Z Z Z Z ?_;clear M T;intro g1 wc ac M T
  refine Zl2 ?_
  refine Zot M T Z Z (T.e 0 Z) (T.e 1 Z) Z .head Z Z ?_;clear M T;intro wc ac M T
  replace T:=T.pick [0,4,5,6,7] rfl
  refine Zln ?_
  refine Zgs M (M.mask [true] Z) 12 (by kernel_rfl) Z (by kernel_rfl) ?_
  clear M;intro wc M
  refine Zgq T 0 1 Z (fun _=>(Zrm Z (T.e 1 Z))) ?_;intro ac T
  refine Zgq (v:=(Zj g1)) T 1 3 Z (fun _=>(Zrg 0 Z (T.e 1 Z))) ?_;intro ac T
  refine gq T 2 7 Z (fun B w' hD hl hS=>(Zro (Mem.nth (show Mem w noEx w' _ from hS) 0 Z) Z (T.e 0 Z) Z)) ?_;intro ac T
  refine Zgq (v:=(.pointer (some ⟨g1,1,none⟩))) T 6 71 Z (fun _=>(Zrg 1 Z (T.e 3 Z))) ?_;intro ac T
  refine gq T 7 199 Z (fun B w' hD hl hS=>(Zro (Mem.nth (show Mem w noEx w' _ from hS) 0 Z) Z (T.e 0 Z) Z)) ?_;intro ac T
  refine gw 3 207 ?_;intro K hK
  refine Zod T Z Z Z Z evf (.cons (T.e 2 Z) .nil) func43 Z Z ?_
  refine Calls.mono (Itoa_any x0 _ (by (try dsimp only);omega) (hT.mem0 M)) ?_
  clear T;rintro e wc ⟨rfl,hb⟩ ac T
  replace M:=M.call hb;clear hb
  have hiu1:=itoa_len (v:=x0) ⟨by (try dsimp only);omega,by (try dsimp only);omega⟩
  refine Zso hK _ _ (M.mask [true] Z) ?_;clear hK K
  refine Zgq T 4 223 Z (fun _=>(rn_sadd Z evc (T.e 0 Z) (by (try simp only [Zx3,Zx1,Zx2]);omega))) ?_;intro ac T
  refine Zgq T 5 255 Z (fun _=>(rn_sadd Z (T.e 0 Z) evc (by (try simp only [Zx3,Zx1,Zx2]);omega))) ?_;intro ac T
  refine gw 8 511 ?_;intro K hK
  refine Zod T Z Z Z Z evf (.cons (T.e 3 Z) .nil) func43 Z Z ?_
  refine Calls.mono (Itoa_any x1 _ (by (try dsimp only);omega) (hT.mem0 M)) ?_
  clear T;rintro e wc ⟨rfl,hb⟩ ac T
  replace M:=M.call hb;clear hb
  have hiu2:=itoa_len (v:=x1) ⟨by (try dsimp only);omega,by (try dsimp only);omega⟩
  refine Zso hK _ _ (M.mask [true] Z) ?_;clear hK K
  refine Zgq T 9 1023 Z (fun _=>(rn_sadd Z (T.e 1 Z) (T.e 0 Z) (by (try simp only [Zx3,Zx1,Zx2]);omega))) ?_;intro ac T
  refine Zgq T 10 2047 Z (fun _=>(rn_sadd Z (T.e 9 Z) (T.e 0 Z) (by (try simp only [Zx3,Zx1,Zx2]);omega))) ?_;intro ac T
  refine g_q (v:=(sv ((rgV (l.take k))++(((([44])++(Lib.itoa x0))++([46,46]))++(Lib.itoa x1))))) (T:=T.pick [0,1,2,3,4,5,6,7,8,9,10,11,13,14,15] Z) (i:=11) Z (by kernel_rfl) (by kernel_rfl:(Zpb 12 2047).setIfInBounds 11 true=Zpb 12 4095) si_U (fun _ _ _ h=>h) Z Z Z Z (fun _ _ _ _ _=>(Zra Z (T.e 0 Z))) ?_;intro ac T
  refine Zgd (by kernel_rfl) ?_
  replace T:=T.pick [0,13,14,15] rfl
  replace M:=M.mask [false] rfl
  refine Znb ?_
  refine nm_then ?_
  refine wp_region_lit ?_
  refine lq T (rn_add Z (T.e 3 Z) evc (by omega)) ?_;intro ac T
  refine l_q (v:=(Zi ((k:Int)+1))) (T.pick [0,1,2,3] Z) Z Z Z Z (Zrm Z (T.e 0 Z)) ?_;intro ac T
  replace T:=T.pick [0,2,3,4] rfl
  refine Zln ?_
  have e9:rgV (l.take k)++(([44]++Lib.itoa x0++[46,46])++Lib.itoa x1)=rgV (l.take (k+1)):=by rw [take_sn hkx,rgV_snoc]
  rw [e9] at T
  have hs2:=congrArg List.length e9
  simp only [Zx3,Zx1,Zx2] at hs2
  exact ⟨_,by omega,k+1,Z,(by omega),(by omega),T.pick [1,2,3,0] Z,M.mask [] Z⟩
 intro h1
 refine wp_exit ?_
 refine Zet ?_
 refine Zet ?_
 refine ex_hit ?_
 refine nm_then ?_
 refine Zsr ?_
 refine Zg2 T (Zq (Zrm Z (T.e 1 Z))) Z (Za 0 Z Z) Z ?_;intro ac T
 replace T:=T.pick [0] rfl
 refine Zln ?_
 refine wp_ret ?_
 refine rt_1 T Z (T.e 0 Z) ?_
 have e9:l.take k=l:=List.take_of_length_le (by omega)
 rw [e9]
 exact ⟨rfl,M.below⟩
theorem vnumbers_any (A:Option Addr) (n c:Nat) (l:List Int) (w:World) (hr:Rd w w.heap.size 1 A n (ic l)) (hn:n≤1000) (hl:∀ p∈l,sm p) (hT:StrW w)  :
   Calls prog 40 #[.slice A n c] w fun e w'=>e=.returned (sv (nmV l))∧Below w.heap.size w w':=by
 have hll:=hr.len1
 obtain ⟨bJ,oJ,SJ⟩:=Sp.old hr
 refine Zpx noEx func40 Z 19 Z [.slice A n c] Z Z (Mem.init w _) ?_
 intro ac wc T M
 refine Zsr ?_
 refine lq T (Zra Z evc) ?_;intro ac T
 replace T:=T.pick [1] rfl
 refine Zln ?_
 refine Zsr ?_
 refine lq T (Zra Z evc) ?_;intro ac T
 refine Zln ?_
 refine wp_seq ?_
 refine Zsr ?_
 refine Zg3 T (Zq (Zrm Z (T.e 1 Z))) Z (Zl underlying31 0 Z Z) Z (fun _ T=>Zq (Zrm Z evc)) Z ?_;intro ac T
 replace T:=T.pick [0,1,2,3] rfl
 refine Zln ?_
 refine wp_block ?_
 refine wp_loop_n (fun mz ac wc=>∃ (k:Nat),mz=n - k∧(k≤n)∧((nmV (l.take k)).length≤k * 5)∧Tm ac 19 [(3,sv (nmV (l.take k))),(6,.slice A n c),(7,Zi ((n:Nat):Int)),(8,Zi (k:Int))]∧Mem w noEx wc []) ?_ ?_
 ·exact ⟨_,0,Z,(Nat.zero_le _),(Nat.le_refl _),T.pick [3,2,1,0] Z,M.mask [] Z⟩
 clear T M
 rintro mz ac wc ⟨k,hmm1,hk,hs,T,M⟩
 refine Zsr ?_
 refine lq T (rn_lss Z (T.e 3 Z) (T.e 2 Z)) ?_;intro ac T
 refine Zln ?_
 refine wp_seq ?_
 refine wp_if (T.e 0 Z) ?_ ?_
 ·intro h1
  obtain ⟨x0,hkx,-⟩:=ic_next (l:=l) (k:=k) (by omega)
  have hx:=hl _ (List.mem_of_getElem? hkx)
  obtain ⟨hx1,hx2⟩:=hx
  refine Zsk ?_
  refine wp_seq ?_
  refine wp_block ?_
  refine Zsr ?_
  refine Zg3 T (Zq (Zri (size:=1) k Z (T.e 2 Z) (T.e 4 Z) ⟨_,underlying31,by kernel_rfl⟩ Z (by omega) (SJ.at0 (by omega)))) Z (fun _ T=>Zq (rn_cell (Sp.ic0 SJ M (Zz9 _) hkx) Z (T.e 0 Z))) Z (Za 0 Z Z) Z ?_;intro ac T
  replace T:=T.pick [0,4,5,6,7] rfl
  refine Zln ?_
  refine wp_region_lit ?_
  refine Zg2 T (Zq (Zrm Z (T.e 1 Z))) Z (Zm 1 Z Z) Z ?_;intro ac T
  refine Zl2 ?_
  refine Zod T Z Z Z Z evf (.cons (T.e 0 Z) .nil) func43 Z Z ?_
  refine Calls.mono (Itoa_any x0 _ (by (try dsimp only);omega) (hT.mem0 M)) ?_
  clear T;rintro e wc ⟨rfl,hb⟩ ac T
  replace M:=M.call hb;clear hb
  have hiu1:=itoa_len (v:=x0) ⟨by (try dsimp only);omega,by (try dsimp only);omega⟩
  refine Zg2 T (Zq (rn_sadd Z evc (T.e 0 Z) (by (try simp only [Zx3,Zx1,Zx2]);omega))) Z (fun _ T=>Zq (rn_sadd Z (T.e 3 Z) (T.e 0 Z) (by (try simp only [Zx3,Zx1,Zx2]);omega))) Z ?_;intro ac T
  refine l_q (v:=(sv ((nmV (l.take k))++(([44])++(Lib.itoa x0))))) (T.pick [0,1,2,3,4,5,7,8,9] Z) Z Z Z Z (Zra Z (T.e 0 Z)) ?_;intro ac T
  refine wpList_nil ?_
  replace T:=T.pick [0,7,8,9] rfl
  refine Znb ?_
  refine nm_then ?_
  refine wp_region_lit ?_
  refine lq T (rn_add Z (T.e 3 Z) evc (by omega)) ?_;intro ac T
  refine l_q (v:=(Zi ((k:Int)+1))) (T.pick [0,1,2,3] Z) Z Z Z Z (Zrm Z (T.e 0 Z)) ?_;intro ac T
  replace T:=T.pick [0,2,3,4] rfl
  refine Zln ?_
  have e9:nmV (l.take k)++([44]++Lib.itoa x0)=nmV (l.take (k+1)):=by rw [take_sn hkx,nmV_snoc]
  rw [e9] at T
  have hs2:=congrArg List.length e9
  simp only [Zx3,Zx1,Zx2] at hs2
  exact ⟨_,by omega,k+1,Z,(by omega),(by omega),T.pick [1,2,3,0] Z,M.mask [] Z⟩
 intro h1
 refine wp_exit ?_
 refine Zet ?_
 refine Zet ?_
 refine ex_hit ?_
 refine nm_then ?_
 refine Zsr ?_
 refine Zg2 T (Zq (Zrm Z (T.e 1 Z))) Z (Za 0 Z Z) Z ?_;intro ac T
 replace T:=T.pick [0] rfl
 refine Zln ?_
 refine wp_ret ?_
 refine rt_1 T Z (T.e 0 Z) ?_
 have e9:l.take k=l:=List.take_of_length_le (by omega)
 rw [e9]
 exact ⟨rfl,M.below⟩
theorem told5_any (x0 x1:Int) (w:World) (h0:sm x0) (h1:sm x1) (hT:StrW w)  :
  Calls prog 44 #[.agg #[Zi x0,Zi x1]] w fun e w'=>e=.returned (sv (Lib.itoa x0++[46,46]++Lib.itoa x1))∧Below w.heap.size w w':=by
 obtain ⟨h2,h3⟩:=h0
 obtain ⟨h4,h5⟩:=h1
 refine Zpx noEx func44 Z 11 Z [.agg #[Zi x0,Zi x1]] Z Z (Mem.init w _) ?_
 intro ac wc T M
 refine Zsr ?_
 refine Zl2 ?_
 refine Zob M T Z Z Z Z (T.e 0 Z) Z ?_;clear M T;intro g1 wc ac M T
 refine lq T (Zra Z evc) ?_;intro ac T
 replace T:=T.pick [1] rfl
 refine Zln ?_
 refine wp_seq ?_
 refine Zgs M (M.mask [true] Z) 9 (by kernel_rfl) Z (by kernel_rfl) ?_
 clear M;intro wc M
 refine Zgq (v:=(Zj g1)) T 0 1 Z (fun _=>(Zrg 0 Z (T.e 0 Z))) ?_;intro ac T
 refine gq T 1 3 Z (fun B w' hD hl hS=>(Zro (Mem.nth (show Mem w noEx w' _ from hS) 0 Z) Z (T.e 0 Z) Z)) ?_;intro ac T
 refine Zgq (v:=(.pointer (some ⟨g1,1,none⟩))) T 4 19 Z (fun _=>(Zrg 1 Z (T.e 2 Z))) ?_;intro ac T
 refine gq T 5 51 Z (fun B w' hD hl hS=>(Zro (Mem.nth (show Mem w noEx w' _ from hS) 0 Z) Z (T.e 0 Z) Z)) ?_;intro ac T
 refine gw 2 55 ?_;intro K hK
 refine Zod T Z Z Z Z evf (.cons (T.e 2 Z) .nil) func43 Z Z ?_
 refine Calls.mono (Itoa_any x0 _ (by (try dsimp only);omega) (hT.mem0 M)) ?_
 clear T;rintro e wc ⟨rfl,hb⟩ ac T
 replace M:=M.call hb;clear hb
 have hiu1:=itoa_len (v:=x0) ⟨by (try dsimp only);omega,by (try dsimp only);omega⟩
 refine Zso hK _ _ (M.mask [true] Z) ?_;clear hK K
 refine Zgq T 3 63 Z (fun _=>(rn_sadd Z (T.e 0 Z) evc (by (try simp only [Zx3,Zx1,Zx2]);omega))) ?_;intro ac T
 refine gw 6 127 ?_;intro K hK
 refine Zod T Z Z Z Z evf (.cons (T.e 2 Z) .nil) func43 Z Z ?_
 refine Calls.mono (Itoa_any x1 _ (by (try dsimp only);omega) (hT.mem0 M)) ?_
 clear T;rintro e wc ⟨rfl,hb⟩ ac T
 replace M:=M.call hb;clear hb
 have hiu2:=itoa_len (v:=x1) ⟨by (try dsimp only);omega,by (try dsimp only);omega⟩
 refine Zso hK _ _ (M.mask [true] Z) ?_;clear hK K
 refine Zgq T 7 255 Z (fun _=>(rn_sadd Z (T.e 1 Z) (T.e 0 Z) (by (try simp only [Zx3,Zx1,Zx2]);omega))) ?_;intro ac T
 refine Zgq T 8 511 Z (fun _=>(Zra Z (T.e 0 Z))) ?_;intro ac T
 refine Zgd (by kernel_rfl) ?_
 replace T:=T.pick [0] rfl
 replace M:=M.mask [false] rfl
 refine Znr ?_
 refine rt_1 T Z (T.e 0 Z) ?_
 exact ⟨rfl,M.below⟩
set_option maxHeartbeats 4000000 in
theorem vwrite_any (b:Bx) (A:Option Addr) (c:Nat) (B:Option Addr) (d:Nat) (w:World) (hA:Rd w w.heap.size 4 A b.lows.length (sc b.lows)) (hB:Rd w w.heap.size 4 B b.highs.length (sc b.highs)) (nA:b.lows.length≤1000000) (nB:b.highs.length≤1000000) (hT:StrW w)  :
   Calls prog 10 #[bxV b A c B d] w fun e w'=>e=.returned (.tuple #[sv (wrV b),Zi (checkB b)])∧Below w.heap.size w w':=by
 have hlA:=hA.len4
 have hlB:=hB.len4
 obtain ⟨bA,oA,SA⟩:=Sp.old hA
 obtain ⟨bB,oB,SB⟩:=Sp.old hB
 refine Zpx noEx func10 Z 105 Z [bxV b A c B d] Z Z (Mem.init w _) ?_
 intro ac wc T M
 refine Zsr ?_
 refine Zl2 ?_
 refine Zob M T Z Z Z Z (T.e 0 Z) Z ?_;clear M T;intro g1 wc ac M T
 refine Zg2 T (Zq (Zra Z evc)) Z (Zc Z) Z ?_;intro ac T
 replace T:=T.pick [2] rfl
 refine Zln ?_
 refine wp_seq ?_
 refine Zsr ?_
 refine lq T (Zrr (Mem.nth M 0 Z) Z (T.e 0 Z) Z) ?_;intro ac T
 refine Zl2 ?_
 refine Zod T Z Z Z Z evf (.cons (T.e 0 Z) .nil) func39 Z Z ?_
 refine Calls.mono (vCheck_any b _ _ _ _ _ (SA.rd M (Zz9 _)) (SB.rd M (Zz9 _)) (by omega) (by omega)) ?_
 clear T;rintro e wc ⟨rfl,hb⟩ ac T
 replace M:=M.call hb;clear hb
 refine lq T (Zra Z (T.e 0 Z)) ?_;intro ac T
 replace T:=T.pick [0,3] rfl
 refine Zln ?_
 refine Zsr ?_
 refine Zg2 T (Zq (Zrm Z (T.e 0 Z))) Z (fun _ T=>Zq (rn_neq Z (T.e 0 Z) evc)) Z ?_;intro ac T
 replace T:=T.pick [0,2,3] rfl
 refine Zln ?_
 refine wp_ifn (T.e 0 Z) ?_ ?_
 ·intro h1
  refine Zsr ?_
  refine Zg3 T (Zq (Zrm Z (T.e 1 Z))) Z (Zc Z) Z (Za 1 Z Z) Z ?_;intro ac T
  refine wpList_nil ?_
  replace T:=T.pick [0,1] rfl
  replace M:=M.mask [false] rfl
  refine Znr ?_
  refine Zrt ?_
  refine rt_2 T Z (T.e 1 Z) (T.e 0 Z) ?_
  have e9:wrV b=[]:=by unfold wrV;rw [if_neg (by assumption)]
  rw [e9]
  exact ⟨rfl,M.below⟩
 intro h1
 have gb:=checkB_good.1 (show checkB b=0 by omega)
 have gj:=good_of gb.job
 have gq1:=gb.law.first
 have gq2:=gb.law.step
 have gq3:=gb.law.span
 have gq4:=gb.law.press
 have gq5:=gb.note
 have gq6:=gj.t
 have gq7:=gj.r
 have gq8:=gj.u
 have gq9:=gj.d
 have gq10:=gj.a
 have gq11:=gj.b
 have gq12:=gj.le
 have gq13:=gj.me
 simp only [Bx.law,blankJ] at gq1 gq2 gq3 gq4 gq6 gq7 gq8 gq9 gq10 gq11 gq12 gq13
 have gq14:=gb.lows.1
 have gq15:=gb.highs.1
 have hQ0:=rgV_len [(b.u0,b.u1),(b.d0,b.d1),(b.a0,b.a1),(b.b0,b.b1)] (by intro p hp;simp only [Zx7,Zx8,or_false] at hp;rcases hp with rfl | rfl | rfl | rfl <;> exact ⟨⟨by dsimp only;omega,by dsimp only;omega⟩,by dsimp only;omega,by dsimp only;omega⟩)
 simp only [Zx1,Zx2] at hQ0
 have hQ1:=rgV_len [(b.t0,b.t1),(b.r0,b.r1)] (by intro p hp;simp only [Zx7,Zx8,or_false] at hp;rcases hp with rfl | rfl <;> exact ⟨⟨by dsimp only;omega,by dsimp only;omega⟩,by dsimp only;omega,by dsimp only;omega⟩)
 simp only [Zx1,Zx2] at hQ1
 have hP0:=nmV_len [b.le] (by intro p hp;simp only [Zx7,Zx8,or_false] at hp;rcases hp with rfl <;> exact ⟨by omega,by omega⟩)
 simp only [Zx1,Zx2] at hP0
 have hP1:=nmV_len [b.me] (by intro p hp;simp only [Zx7,Zx8,or_false] at hp;rcases hp with rfl <;> exact ⟨by omega,by omega⟩)
 simp only [Zx1,Zx2] at hP1
 refine Zsk ?_
 refine Zsr ?_
 refine Zg8 (v1:=(Zj g1)) (v2:=(Zj g1)) (v4:=(Zj g1)) (v5:=(.pointer (some ⟨g1,1,none⟩))) (v7:=(Zj g1)) (v8:=(.pointer (some ⟨g1,2,none⟩))) T (Zq (Zrg 0 Z (T.e 2 Z))) Z (Zf 0 0 Z Z) Z (Zo M 0 0 Z Z Z Z) Z (Zf 0 5 Z Z) Z (Zf 1 0 Z Z) Z (Zo M 0 0 Z Z Z Z) Z (Zf 0 8 Z Z) Z (Zf 2 0 Z Z) Z ?_;intro ac T
 refine Zg6 (v2:=(Zj g1)) (v3:=(.pointer (some ⟨g1,3,none⟩))) (v5:=(.pointer (some ⟨g1,4,none⟩))) T (Zq (Zro (Mem.nth M 0 Z) Z (T.e 0 Z) Z)) Z (Zf 0 11 Z Z) Z (Zf 3 0 Z Z) Z (Zo M 0 0 Z Z Z Z) Z (Zf 4 14 Z Z) Z (Zo M 0 0 Z Z Z Z) Z ?_;intro ac T
 refine Zl2 ?_
 refine ow_bs (e:=3) [Zi b.first,Zi b.step,Zi b.span,Zi b.press,Zi b.note] M T Z Z Z Z (.cons (T.e 11 Z) (.cons (T.e 8 Z) (.cons (T.e 5 Z) (.cons (T.e 2 Z) (.cons (T.e 0 Z) .nil))))) (fun _=>by kernel_rfl) ?_;clear M T;intro g2 wc ac M T
 refine Zl2 ?_
 refine Zod T Z Z Z Z evf (.cons (T.e 0 Z) .nil) func40 Z Z ?_
 refine Calls.mono (vnumbers_any _ _ _ [b.first,b.step,b.span,b.press,b.note] _ (M.rdOwn (Zne (i:=0) rfl) rfl rfl) (by omega) (by intro p hp;simp only [Zx7,Zx8,or_false] at hp;rcases hp with rfl | rfl | rfl | rfl | rfl <;> exact ⟨by omega,by omega⟩) (hT.mem0 M)) ?_
 clear T;rintro e wc ⟨rfl,hb⟩ ac T
 replace M:=M.call hb;clear hb
 have hru2:=nmV_len [b.first,b.step,b.span,b.press,b.note] (by intro p hp;simp only [Zx7,Zx8,or_false] at hp;rcases hp with rfl | rfl | rfl | rfl | rfl <;> exact ⟨by omega,by omega⟩)
 simp only [Zx1,Zx2] at hru2
 refine Zg3 T (Zq (rn_sadd Z evc (T.e 0 Z) (by (try simp only [Zx3,Zx1,Zx2]);omega))) Z (fun _ T=>Zq (rn_sadd Z (T.e 0 Z) evc (by (try simp only [Zx3,Zx1,Zx2]);omega))) Z (Za 0 Z Z) Z ?_;intro ac T
 refine wpList_nil ?_
 replace T:=T.pick [0,21] rfl
 replace M:=M.mask [false,true] rfl
 refine Zns ?_
 refine Zsr ?_
 refine Zg4 (v1:=(.pointer (some ⟨g1,5,none⟩))) T (Zq (Zrg 5 Z (T.e 1 Z))) Z (Zo M 0 0 Z Z Z Z) Z (Zl underlying24 0 Z Z) Z (fun _ T=>Zq (Zrm Z evc)) Z ?_;intro ac T
 replace T:=T.pick [0,1,2,4,5] rfl
 refine Zln ?_
 refine wp_block ?_
 obtain ⟨pre9,hpre9⟩:∃ q:List UInt8,q=((([108,97,119])++(nmV [b.first,b.step,b.span,b.press,b.note]))++([10])):=⟨_,rfl⟩
 rw [← hpre9] at T
 have lpre9:=congrArg List.length hpre9
 simp only [Zx3,Zx1,Zx2] at lpre9
 refine wp_loop_n (fun mz ac wc=>∃ (k:Nat),mz=b.lows.length - k∧(k≤b.lows.length)∧(((b.lows.take k).flatMap (sndT lowW)).length≤k * 27)∧Tm ac 105 [(1,Zj g1),(5,sv (pre9++(b.lows.take k).flatMap (sndT lowW))),(34,.slice A b.lows.length c),(35,Zi ((b.lows.length:Nat):Int)),(36,Zi (k:Int))]∧Mem w noEx wc [(g1,.cells (bxM b (.slice A b.lows.length c) (.slice B b.highs.length d)))]) ?_ ?_
 ·have e0:pre9=pre9++(b.lows.take 0).flatMap (sndT lowW):=by simp
  rw [e0] at T
  exact ⟨_,0,Z,(Nat.zero_le _),(Nat.le_refl _),T.pick [4,3,2,1,0] Z,M.mask [true] Z⟩
 clear T M
 rintro mz ac wc ⟨k,hmm1,hk,hspre9,T,M⟩
 refine Zsr ?_
 refine lq T (rn_lss Z (T.e 4 Z) (T.e 3 Z)) ?_;intro ac T
 refine Zln ?_
 refine wp_seq ?_
 refine wp_if (T.e 0 Z) ?_ ?_
 ·intro h2
  obtain ⟨x,hkx,-⟩:=sc_next (l:=b.lows) (k:=k) (by omega)
  have hx:=gb.lows.2 _ (List.mem_of_getElem? hkx)
  have hx1:=hx.t
  have hx2:=hx.s
  have hS9:=sndT_len (w:=lowW) (by decide) (b.lows.take (k+1)) (fun p hp=>gb.lows.2 p ((List.take_sublist _ _).subset hp))
  rw [List.length_take] at hS9
  refine Zsk ?_
  refine wp_seq ?_
  refine wp_block ?_
  refine Zsr ?_
  refine Zg2 (v2:=(.agg #[Zi x.t0,Zi x.t1,Zi x.s0,Zi x.s1])) T (Zq (Zri (size:=4) k Z (T.e 3 Z) (T.e 5 Z) ⟨_,underlying24,by kernel_rfl⟩ Z (by omega) (SA.at0 (by omega)))) Z (fun _ T=>Zq (rn_rowat (Sp.scR4 SA M (Zz9 _) hkx) Z (T.e 0 Z) Z)) Z ?_;intro ac T
  refine Zl2 ?_
  refine Zoa M T Z Z Z Z ?_;clear M T;intro g3 wc ac M T
  refine Zl2 ?_
  refine Zot M T Z Z (T.e 0 Z) (T.e 1 Z) Z .head Z Z ?_;clear M T;intro wc ac M T
  replace T:=T.pick [0,4,5,6,7,8] rfl
  refine Zln ?_
  refine wp_region_lit ?_
  refine Zg5 (v2:=(Zj g3)) (v4:=(.pointer (some ⟨g3,2,none⟩))) T (Zq (Zrm Z (T.e 2 Z))) Z (Zf 0 1 Z Z) Z (Zr M 0 0 Z Z Z Z) Z (Zf 2 3 Z Z) Z (Zr M 0 0 Z Z Z Z) Z ?_;intro ac T
  refine Zl2 ?_
  refine ow_bs (e:=26) [Zi x.t0,Zi x.t1,Zi x.s0,Zi x.s1] M T Z Z Z Z (.cons (T.e 2 Z) (.cons (T.e 0 Z) .nil)) (fun _=>by kernel_rfl) ?_;clear M T;intro g4 wc ac M T
  refine Zl2 ?_
  refine Zod T Z Z Z Z evf (.cons (T.e 0 Z) .nil) func41 Z Z ?_
  refine Calls.mono (vranges_any _ _ _ ([(x.t0,x.t1),(x.s0,x.s1)]) _ (M.rdOwn (Zne (i:=0) rfl) rfl rfl) (by omega) (by intro p hp;simp only [Zx7,Zx8,or_false] at hp;rcases hp with rfl | rfl <;> exact ⟨⟨by dsimp only;omega,by dsimp only;omega⟩,by dsimp only;omega,by dsimp only;omega⟩) (hT.mem0 M)) ?_
  clear T;rintro e wc ⟨rfl,hb⟩ ac T
  replace M:=M.call hb;clear hb
  have hru3:=rgV_len ([(x.t0,x.t1),(x.s0,x.s1)]) (by intro p hp;simp only [Zx7,Zx8,or_false] at hp;rcases hp with rfl | rfl <;> exact ⟨⟨by dsimp only;omega,by dsimp only;omega⟩,by dsimp only;omega,by dsimp only;omega⟩)
  simp only [Zx1,Zx2] at hru3
  refine Zg3 T (Zq (rn_sadd Z evc (T.e 0 Z) (by (try simp only [Zx3,Zx1,Zx2]);omega))) Z (fun _ T=>Zq (rn_sadd Z (T.e 0 Z) evc (by (try simp only [Zx3,Zx1,Zx2]);omega))) Z (fun _ T=>Zq (rn_sadd Z (T.e 8 Z) (T.e 0 Z) (by (try simp only [Zx3,Zx1,Zx2]);omega))) Z ?_;intro ac T
  refine l_q (v:=(sv ((pre9++(b.lows.take k).flatMap (sndT lowW))++((([108,111,119])++(rgV ([(x.t0,x.t1),(x.s0,x.s1)])))++([10]))))) (T.pick [0,1,2,3,4,5,6,7,8,9,10,11,13,14,15] Z) Z Z Z Z (Zra Z (T.e 0 Z)) ?_;intro ac T
  refine wpList_nil ?_
  replace T:=T.pick [0,12,13,14,15] rfl
  replace M:=M.mask [false,false,true] rfl
  refine Znb ?_
  refine nm_then ?_
  refine wp_region_lit ?_
  refine lq T (rn_add Z (T.e 4 Z) evc (by omega)) ?_;intro ac T
  refine l_q (v:=(Zi ((k:Int)+1))) (T.pick [0,1,2,3,4] Z) Z Z Z Z (Zrm Z (T.e 0 Z)) ?_;intro ac T
  replace T:=T.pick [0,2,3,4,5] rfl
  refine Zln ?_
  have e9:((pre9++(b.lows.take k).flatMap (sndT lowW))++((([108,111,119])++(rgV ([(x.t0,x.t1),(x.s0,x.s1)])))++([10])))=pre9++(b.lows.take (k+1)).flatMap (sndT lowW):=by rw [take_sn hkx,List.flatMap_append];simp [sndT,lowW,rgV]
  rw [e9] at T
  exact ⟨_,by omega,k+1,Z,(by omega),(by omega),T.pick [2,1,3,4,0] Z,M.mask [true] Z⟩
 intro h2
 have ekpre9:b.lows.take k=b.lows:=List.take_of_length_le (by omega)
 refine wp_exit ?_
 refine Zet ?_
 refine Zet ?_
 refine ex_hit ?_
 refine Zns ?_
 refine Zsr ?_
 refine Zg4 (v1:=(.pointer (some ⟨g1,6,none⟩))) T (Zq (Zrg 6 Z (T.e 1 Z))) Z (Zo M 0 0 Z Z Z Z) Z (Zl underlying24 0 Z Z) Z (fun _ T=>Zq (Zrm Z evc)) Z ?_;intro ac T
 replace T:=T.pick [0,1,2,5,6] rfl
 refine Zln ?_
 refine wp_block ?_
 obtain ⟨pre8,hpre8⟩:∃ q:List UInt8,q=(pre9++(b.lows.take k).flatMap (sndT lowW)):=⟨_,rfl⟩
 rw [← hpre8] at T
 have lpre8:=congrArg List.length hpre8
 simp only [Zx3,Zx1,Zx2] at lpre8
 refine wp_loop_n (fun mz ac wc=>∃ (k:Nat),mz=b.highs.length - k∧(k≤b.highs.length)∧(((b.highs.take k).flatMap (sndT highW)).length≤k * 27)∧Tm ac 105 [(1,Zj g1),(5,sv (pre8++(b.highs.take k).flatMap (sndT highW))),(52,.slice B b.highs.length d),(53,Zi ((b.highs.length:Nat):Int)),(54,Zi (k:Int))]∧Mem w noEx wc [(g1,.cells (bxM b (.slice A b.lows.length c) (.slice B b.highs.length d)))]) ?_ ?_
 ·have e0:pre8=pre8++(b.highs.take 0).flatMap (sndT highW):=by simp
  rw [e0] at T
  exact ⟨_,0,Z,(Nat.zero_le _),(Nat.le_refl _),T.pick [3,4,2,1,0] Z,M.mask [true] Z⟩
 clear T M
 rintro mz ac wc ⟨k,hmm2,hk,hspre8,T,M⟩
 refine Zsr ?_
 refine lq T (rn_lss Z (T.e 4 Z) (T.e 3 Z)) ?_;intro ac T
 refine Zln ?_
 refine wp_seq ?_
 refine wp_if (T.e 0 Z) ?_ ?_
 ·intro h3
  obtain ⟨x,hkx,-⟩:=sc_next (l:=b.highs) (k:=k) (by omega)
  have hx:=gb.highs.2 _ (List.mem_of_getElem? hkx)
  have hx1:=hx.t
  have hx2:=hx.s
  have hS9:=sndT_len (w:=highW) (by decide) (b.highs.take (k+1)) (fun p hp=>gb.highs.2 p ((List.take_sublist _ _).subset hp))
  rw [List.length_take] at hS9
  refine Zsk ?_
  refine wp_seq ?_
  refine wp_block ?_
  refine Zsr ?_
  refine Zg2 (v2:=(.agg #[Zi x.t0,Zi x.t1,Zi x.s0,Zi x.s1])) T (Zq (Zri (size:=4) k Z (T.e 3 Z) (T.e 5 Z) ⟨_,underlying24,by kernel_rfl⟩ Z (by omega) (SB.at0 (by omega)))) Z (fun _ T=>Zq (rn_rowat (Sp.scR4 SB M (Zz9 _) hkx) Z (T.e 0 Z) Z)) Z ?_;intro ac T
  refine Zl2 ?_
  refine Zoa M T Z Z Z Z ?_;clear M T;intro g5 wc ac M T
  refine Zl2 ?_
  refine Zot M T Z Z (T.e 0 Z) (T.e 1 Z) Z .head Z Z ?_;clear M T;intro wc ac M T
  replace T:=T.pick [0,4,5,6,7,8] rfl
  refine Zln ?_
  refine wp_region_lit ?_
  refine Zg5 (v2:=(Zj g5)) (v4:=(.pointer (some ⟨g5,2,none⟩))) T (Zq (Zrm Z (T.e 2 Z))) Z (Zf 0 1 Z Z) Z (Zr M 0 0 Z Z Z Z) Z (Zf 2 3 Z Z) Z (Zr M 0 0 Z Z Z Z) Z ?_;intro ac T
  refine Zl2 ?_
  refine ow_bs (e:=26) [Zi x.t0,Zi x.t1,Zi x.s0,Zi x.s1] M T Z Z Z Z (.cons (T.e 2 Z) (.cons (T.e 0 Z) .nil)) (fun _=>by kernel_rfl) ?_;clear M T;intro g6 wc ac M T
  refine Zl2 ?_
  refine Zod T Z Z Z Z evf (.cons (T.e 0 Z) .nil) func41 Z Z ?_
  refine Calls.mono (vranges_any _ _ _ ([(x.t0,x.t1),(x.s0,x.s1)]) _ (M.rdOwn (Zne (i:=0) rfl) rfl rfl) (by omega) (by intro p hp;simp only [Zx7,Zx8,or_false] at hp;rcases hp with rfl | rfl <;> exact ⟨⟨by dsimp only;omega,by dsimp only;omega⟩,by dsimp only;omega,by dsimp only;omega⟩) (hT.mem0 M)) ?_
  clear T;rintro e wc ⟨rfl,hb⟩ ac T
  replace M:=M.call hb;clear hb
  have hru4:=rgV_len ([(x.t0,x.t1),(x.s0,x.s1)]) (by intro p hp;simp only [Zx7,Zx8,or_false] at hp;rcases hp with rfl | rfl <;> exact ⟨⟨by dsimp only;omega,by dsimp only;omega⟩,by dsimp only;omega,by dsimp only;omega⟩)
  simp only [Zx1,Zx2] at hru4
  refine Zg3 T (Zq (rn_sadd Z evc (T.e 0 Z) (by (try simp only [Zx3,Zx1,Zx2]);omega))) Z (fun _ T=>Zq (rn_sadd Z (T.e 0 Z) evc (by (try simp only [Zx3,Zx1,Zx2]);omega))) Z (fun _ T=>Zq (rn_sadd Z (T.e 8 Z) (T.e 0 Z) (by (try simp only [Zx3,Zx1,Zx2]);omega))) Z ?_;intro ac T
  refine l_q (v:=(sv ((pre8++(b.highs.take k).flatMap (sndT highW))++((([104,105,103,104])++(rgV ([(x.t0,x.t1),(x.s0,x.s1)])))++([10]))))) (T.pick [0,1,2,3,4,5,6,7,8,9,10,11,13,14,15] Z) Z Z Z Z (Zra Z (T.e 0 Z)) ?_;intro ac T
  refine wpList_nil ?_
  replace T:=T.pick [0,12,13,14,15] rfl
  replace M:=M.mask [false,false,true] rfl
  refine Znb ?_
  refine nm_then ?_
  refine wp_region_lit ?_
  refine lq T (rn_add Z (T.e 4 Z) evc (by omega)) ?_;intro ac T
  refine l_q (v:=(Zi ((k:Int)+1))) (T.pick [0,1,2,3,4] Z) Z Z Z Z (Zrm Z (T.e 0 Z)) ?_;intro ac T
  replace T:=T.pick [0,2,3,4,5] rfl
  refine Zln ?_
  have e9:((pre8++(b.highs.take k).flatMap (sndT highW))++((([104,105,103,104])++(rgV ([(x.t0,x.t1),(x.s0,x.s1)])))++([10])))=pre8++(b.highs.take (k+1)).flatMap (sndT highW):=by rw [take_sn hkx,List.flatMap_append];simp [sndT,highW,rgV]
  rw [e9] at T
  exact ⟨_,by omega,k+1,Z,(by omega),(by omega),T.pick [2,1,3,4,0] Z,M.mask [true] Z⟩
 intro h3
 have ekpre8:b.highs.take k=b.highs:=List.take_of_length_le (by omega)
 refine wp_exit ?_
 refine Zet ?_
 refine Zet ?_
 refine ex_hit ?_
 refine Zns ?_
 refine Zgs M (M.mask [true] Z) 38 (by kernel_rfl) Z (by kernel_rfl) ?_
 clear M;intro wc M
 refine g_have (fun ac wc=>∃ (gr15_32 gr15_27 gr15_20 gr15_14:Nat),Tm ac 105 [(101,.slice (some ⟨gr15_32,0,none⟩) 1 1),(98,sv (((((pre8++(b.highs.take k).flatMap (sndT highW))++([102,105,108,101]))++(rgV ([(b.u0,b.u1),(b.d0,b.d1),(b.a0,b.a1),(b.b0,b.b1)])))++(nmV [b.le]))++(rgV ([(b.t0,b.t1),(b.r0,b.r1)]))))]∧Mem w noEx wc [(gr15_32,.cells [Zi b.me]),(gr15_27,.cells [Zi b.t0,Zi b.t1,Zi b.r0,Zi b.r1]),(gr15_20,.cells [Zi b.le]),(gr15_14,.cells [Zi b.u0,Zi b.u1,Zi b.d0,Zi b.d1,Zi b.a0,Zi b.a1,Zi b.b0,Zi b.b1]),(g1,.cells (bxM b (.slice A b.lows.length c) (.slice B b.highs.length d)))]) (Zpb 38 8589934591) 5 ?_ ?_
 ·clear T M
  rintro ac wc ⟨gr15_32,gr15_27,gr15_20,gr15_14,T,M⟩
  refine gw 33 17179869183 ?_;intro K hK
  refine Zod T Z Z Z Z evf (.cons (T.e 0 Z) .nil) func40 Z Z ?_
  refine Calls.mono (vnumbers_any _ _ _ [b.me] _ (M.rdOwn (Zne (i:=0) rfl) rfl rfl) (by omega) (by intro p hp;simp only [Zx7,Zx8,or_false] at hp;rcases hp with rfl <;> exact ⟨by omega,by omega⟩) (hT.mem0 M)) ?_
  clear T;rintro e wc ⟨rfl,hb⟩ ac T
  replace M:=M.call hb;clear hb
  have hrur15_33:=nmV_len [b.me] (by intro p hp;simp only [Zx7,Zx8,or_false] at hp;rcases hp with rfl <;> exact ⟨by omega,by omega⟩)
  simp only [Zx1,Zx2] at hrur15_33
  refine Zso hK _ _ (M.mask [false,false,false,false,true] Z) ?_;clear hK K
  refine Zgq T 34 34359738367 Z (fun _=>(rn_sadd Z (T.e 2 Z) (T.e 0 Z) (by (try simp only [Zx3,Zx1,Zx2]);omega))) ?_;intro ac T
  refine Zgq T 35 68719476735 Z (fun _=>(rn_sadd Z (T.e 0 Z) evc (by (try simp only [Zx3,Zx1,Zx2]);omega))) ?_;intro ac T
  refine Zgq T 36 137438953471 Z (fun _=>(Zra Z (T.e 0 Z))) ?_;intro ac T
  refine Zgq T 37 274877906943 Z (fun _=>(Zra Z evc)) ?_;intro ac T
  refine Zgd (by kernel_rfl) ?_
  replace T:=T.pick [0,1] rfl
  replace M:=M.mask [false,false,false,false,false] rfl
  refine Znr ?_
  refine rt_2 T Z (T.e 1 Z) (T.e 0 Z) ?_
  have e9:(((((((pre8++(b.highs.take k).flatMap (sndT highW))++([102,105,108,101]))++(rgV ([(b.u0,b.u1),(b.d0,b.d1),(b.a0,b.a1),(b.b0,b.b1)])))++(nmV [b.le]))++(rgV ([(b.t0,b.t1),(b.r0,b.r1)])))++(nmV [b.me]))++([10]))=wrV b:=by unfold wrV;rw [if_pos (show checkB b=0 by omega),ekpre8,hpre8,ekpre9,hpre9];simp [writeV,lawW,fileV,rgV,nmV]
  have e8:checkB b=0:=by omega
  rw [e9,e8]
  exact ⟨rfl,M.below⟩
 intro H21
 refine g_have (fun ac wc=>∃ (gr15_20 gr15_27 gr15_32 gr15_14:Nat),Tm ac 105 [(91,sv ((((pre8++(b.highs.take k).flatMap (sndT highW))++([102,105,108,101]))++(rgV ([(b.u0,b.u1),(b.d0,b.d1),(b.a0,b.a1),(b.b0,b.b1)])))++(nmV [b.le]))),(96,.slice (some ⟨gr15_27,0,none⟩) 2 2),(101,.slice (some ⟨gr15_32,0,none⟩) 1 1)]∧Mem w noEx wc [(gr15_20,.cells [Zi b.le]),(gr15_27,.cells [Zi b.t0,Zi b.t1,Zi b.r0,Zi b.r1]),(gr15_32,.cells [Zi b.me]),(gr15_14,.cells [Zi b.u0,Zi b.u1,Zi b.d0,Zi b.d1,Zi b.a0,Zi b.a1,Zi b.b0,Zi b.b1]),(g1,.cells (bxM b (.slice A b.lows.length c) (.slice B b.highs.length d)))]) (Zpb 38 7784628223) 7 ?_ ?_
 ·clear T M
  rintro ac wc ⟨gr15_20,gr15_27,gr15_32,gr15_14,T,M⟩
  refine gw 28 8053063679 ?_;intro K hK
  refine Zod T Z Z Z Z evf (.cons (T.e 1 Z) .nil) func41 Z Z ?_
  refine Calls.mono (vranges_any _ _ _ ([(b.t0,b.t1),(b.r0,b.r1)]) _ (M.rdOwn (Zne (i:=1) rfl) rfl rfl) (by omega) (by intro p hp;simp only [Zx7,Zx8,or_false] at hp;rcases hp with rfl | rfl <;> exact ⟨⟨by dsimp only;omega,by dsimp only;omega⟩,by dsimp only;omega,by dsimp only;omega⟩) (hT.mem0 M)) ?_
  clear T;rintro e wc ⟨rfl,hb⟩ ac T
  replace M:=M.call hb;clear hb
  have hrur15_28:=rgV_len ([(b.t0,b.t1),(b.r0,b.r1)]) (by intro p hp;simp only [Zx7,Zx8,or_false] at hp;rcases hp with rfl | rfl <;> exact ⟨⟨by dsimp only;omega,by dsimp only;omega⟩,by dsimp only;omega,by dsimp only;omega⟩)
  simp only [Zx1,Zx2] at hrur15_28
  refine Zso hK _ _ (M.mask [false,false,false,false,true] Z) ?_;clear hK K
  refine Zgq T 29 8589934591 Z (fun _=>(rn_sadd Z (T.e 1 Z) (T.e 0 Z) (by (try simp only [Zx3,Zx1,Zx2]);omega))) ?_;intro ac T
  exact H21 _ _ ⟨gr15_32,gr15_27,gr15_20,gr15_14,T.pick [4,0] Z,M.perm [2,1,0,3,4] Z Z⟩
 intro H20
 refine g_have (fun ac wc=>∃ (gr15_27 gr15_20 gr15_14:Nat),Tm ac 105 [(96,.slice (some ⟨gr15_27,0,none⟩) 2 2),(91,sv ((((pre8++(b.highs.take k).flatMap (sndT highW))++([102,105,108,101]))++(rgV ([(b.u0,b.u1),(b.d0,b.d1),(b.a0,b.a1),(b.b0,b.b1)])))++(nmV [b.le]))),(100,Zi b.me)]∧Mem w noEx wc [(gr15_27,.cells [Zi b.t0,Zi b.t1,Zi b.r0,Zi b.r1]),(gr15_20,.cells [Zi b.le]),(gr15_14,.cells [Zi b.u0,Zi b.u1,Zi b.d0,Zi b.d1,Zi b.a0,Zi b.a1,Zi b.b0,Zi b.b1]),(g1,.cells (bxM b (.slice A b.lows.length c) (.slice B b.highs.length d)))]) (Zpb 38 3489660927) 8 ?_ ?_
 ·clear T M
  rintro ac wc ⟨gr15_27,gr15_20,gr15_14,T,M⟩
  refine g_m2 (i:=28) (j:=32) (by kernel_rfl) ?_ ?_
  ·refine gi 3758096383 ?_;intro K hK
   refine Zod T Z Z Z Z evf (.cons (T.e 0 Z) .nil) func41 Z Z ?_
   refine Calls.mono (vranges_any _ _ _ ([(b.t0,b.t1),(b.r0,b.r1)]) _ (M.rdOwn (Zne (i:=0) rfl) rfl rfl) (by omega) (by intro p hp;simp only [Zx7,Zx8,or_false] at hp;rcases hp with rfl | rfl <;> exact ⟨⟨by dsimp only;omega,by dsimp only;omega⟩,by dsimp only;omega,by dsimp only;omega⟩) (hT.mem0 M)) ?_
   clear T;rintro e wc ⟨rfl,hb⟩ ac T
   replace M:=M.call hb;clear hb
   have hrur15_28:=rgV_len ([(b.t0,b.t1),(b.r0,b.r1)]) (by intro p hp;simp only [Zx7,Zx8,or_false] at hp;rcases hp with rfl | rfl <;> exact ⟨⟨by dsimp only;omega,by dsimp only;omega⟩,by dsimp only;omega,by dsimp only;omega⟩)
   simp only [Zx1,Zx2] at hrur15_28
   refine Zso hK _ _ (M.mask [false,false,false,true] Z) ?_;clear hK K
   refine Zgq T 29 4294967295 Z (fun _=>(rn_sadd Z (T.e 2 Z) (T.e 0 Z) (by (try simp only [Zx3,Zx1,Zx2]);omega))) ?_;intro ac T
   refine gw 32 8589934591 ?_;intro K hK
   refine ow_bs (e:=3) [Zi b.me] M T Z Z Z Z (.cons (T.e 4 Z) .nil) (fun _=>by kernel_rfl) ?_;clear M T;intro gr15_32 wc ac M T
   refine Zso hK _ _ (M.mask [false,false,false,false,true] Z) ?_;clear hK K
   exact H21 _ _ ⟨gr15_32,gr15_27,gr15_20,gr15_14,T.pick [0,1] Z,M⟩
  refine gi 7784628223 ?_;intro K hK
  refine ow_bs (e:=3) [Zi b.me] M T Z Z Z Z (.cons (T.e 2 Z) .nil) (fun _=>by kernel_rfl) ?_;clear M T;intro gr15_32 wc ac M T
  refine Zso hK _ _ (M.mask [false,false,false,false,true] Z) ?_;clear hK K
  exact H20 _ _ ⟨gr15_20,gr15_27,gr15_32,gr15_14,T.pick [2,1,0] Z,M.perm [2,1,0,3,4] Z Z⟩
 intro H19
 refine g_have (fun ac wc=>∃ (gr15_32 gr15_20 gr15_14:Nat),Tm ac 105 [(101,.slice (some ⟨gr15_32,0,none⟩) 1 1),(91,sv ((((pre8++(b.highs.take k).flatMap (sndT highW))++([102,105,108,101]))++(rgV ([(b.u0,b.u1),(b.d0,b.d1),(b.a0,b.a1),(b.b0,b.b1)])))++(nmV [b.le]))),(95,.agg #[Zi b.r0,Zi b.r1]),(93,.agg #[Zi b.t0,Zi b.t1])]∧Mem w noEx wc [(gr15_32,.cells [Zi b.me]),(gr15_20,.cells [Zi b.le]),(gr15_14,.cells [Zi b.u0,Zi b.u1,Zi b.d0,Zi b.d1,Zi b.a0,Zi b.a1,Zi b.b0,Zi b.b1]),(g1,.cells (bxM b (.slice A b.lows.length c) (.slice B b.highs.length d)))]) (Zpb 38 7650410495) 8 ?_ ?_
 ·clear T M
  rintro ac wc ⟨gr15_32,gr15_20,gr15_14,T,M⟩
  refine gw 27 7784628223 ?_;intro K hK
  refine ow_bs (e:=26) [Zi b.t0,Zi b.t1,Zi b.r0,Zi b.r1] M T Z Z Z Z (.cons (T.e 3 Z) (.cons (T.e 2 Z) .nil)) (fun _=>by kernel_rfl) ?_;clear M T;intro gr15_27 wc ac M T
  refine Zso hK _ _ (M.mask [false,false,false,false,true] Z) ?_;clear hK K
  exact H20 _ _ ⟨gr15_20,gr15_27,gr15_32,gr15_14,T.pick [2,0,1] Z,M.perm [2,0,1,3,4] Z Z⟩
 intro H18
 refine g_have (fun ac wc=>∃ (gr15_20 gr15_27 gr15_32 gr15_14:Nat),Tm ac 105 [(85,sv (((pre8++(b.highs.take k).flatMap (sndT highW))++([102,105,108,101]))++(rgV ([(b.u0,b.u1),(b.d0,b.d1),(b.a0,b.a1),(b.b0,b.b1)])))),(89,.slice (some ⟨gr15_20,0,none⟩) 1 1),(96,.slice (some ⟨gr15_27,0,none⟩) 2 2),(101,.slice (some ⟨gr15_32,0,none⟩) 1 1)]∧Mem w noEx wc [(gr15_20,.cells [Zi b.le]),(gr15_27,.cells [Zi b.t0,Zi b.t1,Zi b.r0,Zi b.r1]),(gr15_32,.cells [Zi b.me]),(gr15_14,.cells [Zi b.u0,Zi b.u1,Zi b.d0,Zi b.d1,Zi b.a0,Zi b.a1,Zi b.b0,Zi b.b1]),(g1,.cells (bxM b (.slice A b.lows.length c) (.slice B b.highs.length d)))]) (Zpb 38 7778336767) 9 ?_ ?_
 ·clear T M
  rintro ac wc ⟨gr15_20,gr15_27,gr15_32,gr15_14,T,M⟩
  refine gw 21 7780433919 ?_;intro K hK
  refine Zod T Z Z Z Z evf (.cons (T.e 1 Z) .nil) func40 Z Z ?_
  refine Calls.mono (vnumbers_any _ _ _ [b.le] _ (M.rdOwn (Zne (i:=0) rfl) rfl rfl) (by omega) (by intro p hp;simp only [Zx7,Zx8,or_false] at hp;rcases hp with rfl <;> exact ⟨by omega,by omega⟩) (hT.mem0 M)) ?_
  clear T;rintro e wc ⟨rfl,hb⟩ ac T
  replace M:=M.call hb;clear hb
  have hrur15_21:=nmV_len [b.le] (by intro p hp;simp only [Zx7,Zx8,or_false] at hp;rcases hp with rfl <;> exact ⟨by omega,by omega⟩)
  simp only [Zx1,Zx2] at hrur15_21
  refine Zso hK _ _ (M.mask [false,false,false,false,true] Z) ?_;clear hK K
  refine Zgq T 22 7784628223 Z (fun _=>(rn_sadd Z (T.e 1 Z) (T.e 0 Z) (by (try simp only [Zx3,Zx1,Zx2]);omega))) ?_;intro ac T
  exact H20 _ _ ⟨gr15_20,gr15_27,gr15_32,gr15_14,T.pick [0,4,5] Z,M⟩
 intro H17
 refine g_have (fun ac wc=>∃ (gr15_20 gr15_27 gr15_14:Nat),Tm ac 105 [(85,sv (((pre8++(b.highs.take k).flatMap (sndT highW))++([102,105,108,101]))++(rgV ([(b.u0,b.u1),(b.d0,b.d1),(b.a0,b.a1),(b.b0,b.b1)])))),(89,.slice (some ⟨gr15_20,0,none⟩) 1 1),(96,.slice (some ⟨gr15_27,0,none⟩) 2 2),(100,Zi b.me)]∧Mem w noEx wc [(gr15_20,.cells [Zi b.le]),(gr15_27,.cells [Zi b.t0,Zi b.t1,Zi b.r0,Zi b.r1]),(gr15_14,.cells [Zi b.u0,Zi b.u1,Zi b.d0,Zi b.d1,Zi b.a0,Zi b.a1,Zi b.b0,Zi b.b1]),(g1,.cells (bxM b (.slice A b.lows.length c) (.slice B b.highs.length d)))]) (Zpb 38 3483369471) 10 ?_ ?_
 ·clear T M
  rintro ac wc ⟨gr15_20,gr15_27,gr15_14,T,M⟩
  refine g_m2 (i:=21) (j:=32) (by kernel_rfl) ?_ ?_
  ·refine gi 3485466623 ?_;intro K hK
   refine Zod T Z Z Z Z evf (.cons (T.e 1 Z) .nil) func40 Z Z ?_
   refine Calls.mono (vnumbers_any _ _ _ [b.le] _ (M.rdOwn (Zne (i:=0) rfl) rfl rfl) (by omega) (by intro p hp;simp only [Zx7,Zx8,or_false] at hp;rcases hp with rfl <;> exact ⟨by omega,by omega⟩) (hT.mem0 M)) ?_
   clear T;rintro e wc ⟨rfl,hb⟩ ac T
   replace M:=M.call hb;clear hb
   have hrur15_21:=nmV_len [b.le] (by intro p hp;simp only [Zx7,Zx8,or_false] at hp;rcases hp with rfl <;> exact ⟨by omega,by omega⟩)
   simp only [Zx1,Zx2] at hrur15_21
   refine Zso hK _ _ (M.mask [false,false,false,true] Z) ?_;clear hK K
   refine Zgq T 22 3489660927 Z (fun _=>(rn_sadd Z (T.e 1 Z) (T.e 0 Z) (by (try simp only [Zx3,Zx1,Zx2]);omega))) ?_;intro ac T
   exact H19 _ _ ⟨gr15_27,gr15_20,gr15_14,T.pick [4,0,5] Z,M.perm [1,0,2,3] Z Z⟩
  refine gi 7778336767 ?_;intro K hK
  refine ow_bs (e:=3) [Zi b.me] M T Z Z Z Z (.cons (T.e 3 Z) .nil) (fun _=>by kernel_rfl) ?_;clear M T;intro gr15_32 wc ac M T
  refine Zso hK _ _ (M.mask [false,false,false,false,true] Z) ?_;clear hK K
  exact H17 _ _ ⟨gr15_20,gr15_27,gr15_32,gr15_14,T.pick [1,2,3,0] Z,M.perm [1,2,0,3,4] Z Z⟩
 intro H16
 refine g_have (fun ac wc=>∃ (gr15_20 gr15_32 gr15_14:Nat),Tm ac 105 [(85,sv (((pre8++(b.highs.take k).flatMap (sndT highW))++([102,105,108,101]))++(rgV ([(b.u0,b.u1),(b.d0,b.d1),(b.a0,b.a1),(b.b0,b.b1)])))),(89,.slice (some ⟨gr15_20,0,none⟩) 1 1),(101,.slice (some ⟨gr15_32,0,none⟩) 1 1),(95,.agg #[Zi b.r0,Zi b.r1]),(93,.agg #[Zi b.t0,Zi b.t1])]∧Mem w noEx wc [(gr15_20,.cells [Zi b.le]),(gr15_32,.cells [Zi b.me]),(gr15_14,.cells [Zi b.u0,Zi b.u1,Zi b.d0,Zi b.d1,Zi b.a0,Zi b.a1,Zi b.b0,Zi b.b1]),(g1,.cells (bxM b (.slice A b.lows.length c) (.slice B b.highs.length d)))]) (Zpb 38 7644119039) 10 ?_ ?_
 ·clear T M
  rintro ac wc ⟨gr15_20,gr15_32,gr15_14,T,M⟩
  refine g_m2 (i:=21) (j:=27) (by kernel_rfl) ?_ ?_
  ·refine gi 7646216191 ?_;intro K hK
   refine Zod T Z Z Z Z evf (.cons (T.e 1 Z) .nil) func40 Z Z ?_
   refine Calls.mono (vnumbers_any _ _ _ [b.le] _ (M.rdOwn (Zne (i:=0) rfl) rfl rfl) (by omega) (by intro p hp;simp only [Zx7,Zx8,or_false] at hp;rcases hp with rfl <;> exact ⟨by omega,by omega⟩) (hT.mem0 M)) ?_
   clear T;rintro e wc ⟨rfl,hb⟩ ac T
   replace M:=M.call hb;clear hb
   have hrur15_21:=nmV_len [b.le] (by intro p hp;simp only [Zx7,Zx8,or_false] at hp;rcases hp with rfl <;> exact ⟨by omega,by omega⟩)
   simp only [Zx1,Zx2] at hrur15_21
   refine Zso hK _ _ (M.mask [false,false,false,true] Z) ?_;clear hK K
   refine Zgq T 22 7650410495 Z (fun _=>(rn_sadd Z (T.e 1 Z) (T.e 0 Z) (by (try simp only [Zx3,Zx1,Zx2]);omega))) ?_;intro ac T
   exact H18 _ _ ⟨gr15_32,gr15_20,gr15_14,T.pick [4,0,5,6] Z,M.perm [1,0,2,3] Z Z⟩
  refine gi 7778336767 ?_;intro K hK
  refine ow_bs (e:=26) [Zi b.t0,Zi b.t1,Zi b.r0,Zi b.r1] M T Z Z Z Z (.cons (T.e 4 Z) (.cons (T.e 3 Z) .nil)) (fun _=>by kernel_rfl) ?_;clear M T;intro gr15_27 wc ac M T
  refine Zso hK _ _ (M.mask [false,false,false,false,true] Z) ?_;clear hK K
  exact H17 _ _ ⟨gr15_20,gr15_27,gr15_32,gr15_14,T.pick [1,2,0,3] Z,M.perm [1,0,2,3,4] Z Z⟩
 intro H15
 refine g_have (fun ac wc=>∃ (gr15_27 gr15_32 gr15_14:Nat),Tm ac 105 [(85,sv (((pre8++(b.highs.take k).flatMap (sndT highW))++([102,105,108,101]))++(rgV ([(b.u0,b.u1),(b.d0,b.d1),(b.a0,b.a1),(b.b0,b.b1)])))),(96,.slice (some ⟨gr15_27,0,none⟩) 2 2),(101,.slice (some ⟨gr15_32,0,none⟩) 1 1),(88,Zi b.le)]∧Mem w noEx wc [(gr15_27,.cells [Zi b.t0,Zi b.t1,Zi b.r0,Zi b.r1]),(gr15_32,.cells [Zi b.me]),(gr15_14,.cells [Zi b.u0,Zi b.u1,Zi b.d0,Zi b.d1,Zi b.a0,Zi b.a1,Zi b.b0,Zi b.b1]),(g1,.cells (bxM b (.slice A b.lows.length c) (.slice B b.highs.length d)))]) (Zpb 38 7777288191) 10 ?_ ?_
 ·clear T M
  rintro ac wc ⟨gr15_27,gr15_32,gr15_14,T,M⟩
  refine gw 20 7778336767 ?_;intro K hK
  refine ow_bs (e:=3) [Zi b.le] M T Z Z Z Z (.cons (T.e 3 Z) .nil) (fun _=>by kernel_rfl) ?_;clear M T;intro gr15_20 wc ac M T
  refine Zso hK _ _ (M.mask [false,false,false,false,true] Z) ?_;clear hK K
  exact H17 _ _ ⟨gr15_20,gr15_27,gr15_32,gr15_14,T.pick [1,0,2,3] Z,M⟩
 intro H14
 refine g_have (fun ac wc=>∃ (gr15_20 gr15_14:Nat),Tm ac 105 [(89,.slice (some ⟨gr15_20,0,none⟩) 1 1),(85,sv (((pre8++(b.highs.take k).flatMap (sndT highW))++([102,105,108,101]))++(rgV ([(b.u0,b.u1),(b.d0,b.d1),(b.a0,b.a1),(b.b0,b.b1)])))),(100,Zi b.me),(95,.agg #[Zi b.r0,Zi b.r1]),(93,.agg #[Zi b.t0,Zi b.t1])]∧Mem w noEx wc [(gr15_20,.cells [Zi b.le]),(gr15_14,.cells [Zi b.u0,Zi b.u1,Zi b.d0,Zi b.d1,Zi b.a0,Zi b.a1,Zi b.b0,Zi b.b1]),(g1,.cells (bxM b (.slice A b.lows.length c) (.slice B b.highs.length d)))]) (Zpb 38 3349151743) 11 ?_ ?_
 ·clear T M
  rintro ac wc ⟨gr15_20,gr15_14,T,M⟩
  refine g_m3 (i:=21) (j:=27) (k:=32) (by kernel_rfl) ?_ ?_ ?_
  ·refine gi 3351248895 ?_;intro K hK
   refine Zod T Z Z Z Z evf (.cons (T.e 0 Z) .nil) func40 Z Z ?_
   refine Calls.mono (vnumbers_any _ _ _ [b.le] _ (M.rdOwn (Zne (i:=0) rfl) rfl rfl) (by omega) (by intro p hp;simp only [Zx7,Zx8,or_false] at hp;rcases hp with rfl <;> exact ⟨by omega,by omega⟩) (hT.mem0 M)) ?_
   clear T;rintro e wc ⟨rfl,hb⟩ ac T
   replace M:=M.call hb;clear hb
   have hrur15_21:=nmV_len [b.le] (by intro p hp;simp only [Zx7,Zx8,or_false] at hp;rcases hp with rfl <;> exact ⟨by omega,by omega⟩)
   simp only [Zx1,Zx2] at hrur15_21
   refine Zso hK _ _ (M.mask [false,false,true] Z) ?_;clear hK K
   refine Zgq T 22 3355443199 Z (fun _=>(rn_sadd Z (T.e 2 Z) (T.e 0 Z) (by (try simp only [Zx3,Zx1,Zx2]);omega))) ?_;intro ac T
   refine g_m2 (i:=27) (j:=32) (by kernel_rfl) ?_ ?_
   ·refine gi 3489660927 ?_;intro K hK
    refine ow_bs (e:=26) [Zi b.t0,Zi b.t1,Zi b.r0,Zi b.r1] M T Z Z Z Z (.cons (T.e 6 Z) (.cons (T.e 5 Z) .nil)) (fun _=>by kernel_rfl) ?_;clear M T;intro gr15_27 wc ac M T
    refine Zso hK _ _ (M.mask [false,false,false,true] Z) ?_;clear hK K
    exact H19 _ _ ⟨gr15_27,gr15_20,gr15_14,T.pick [0,1,5] Z,M⟩
   refine gi 7650410495 ?_;intro K hK
   refine ow_bs (e:=3) [Zi b.me] M T Z Z Z Z (.cons (T.e 4 Z) .nil) (fun _=>by kernel_rfl) ?_;clear M T;intro gr15_32 wc ac M T
   refine Zso hK _ _ (M.mask [false,false,false,true] Z) ?_;clear hK K
   exact H18 _ _ ⟨gr15_32,gr15_20,gr15_14,T.pick [0,1,6,7] Z,M⟩
  ·refine gi 3483369471 ?_;intro K hK
   refine ow_bs (e:=26) [Zi b.t0,Zi b.t1,Zi b.r0,Zi b.r1] M T Z Z Z Z (.cons (T.e 4 Z) (.cons (T.e 3 Z) .nil)) (fun _=>by kernel_rfl) ?_;clear M T;intro gr15_27 wc ac M T
   refine Zso hK _ _ (M.mask [false,false,false,true] Z) ?_;clear hK K
   exact H16 _ _ ⟨gr15_20,gr15_27,gr15_14,T.pick [2,1,0,3] Z,M.perm [1,0,2,3] Z Z⟩
  refine gi 7644119039 ?_;intro K hK
  refine ow_bs (e:=3) [Zi b.me] M T Z Z Z Z (.cons (T.e 2 Z) .nil) (fun _=>by kernel_rfl) ?_;clear M T;intro gr15_32 wc ac M T
  refine Zso hK _ _ (M.mask [false,false,false,true] Z) ?_;clear hK K
  exact H15 _ _ ⟨gr15_20,gr15_32,gr15_14,T.pick [2,1,0,4,5] Z,M.perm [1,0,2,3] Z Z⟩
 intro H13
 refine g_have (fun ac wc=>∃ (gr15_27 gr15_14:Nat),Tm ac 105 [(96,.slice (some ⟨gr15_27,0,none⟩) 2 2),(85,sv (((pre8++(b.highs.take k).flatMap (sndT highW))++([102,105,108,101]))++(rgV ([(b.u0,b.u1),(b.d0,b.d1),(b.a0,b.a1),(b.b0,b.b1)])))),(100,Zi b.me),(88,Zi b.le)]∧Mem w noEx wc [(gr15_27,.cells [Zi b.t0,Zi b.t1,Zi b.r0,Zi b.r1]),(gr15_14,.cells [Zi b.u0,Zi b.u1,Zi b.d0,Zi b.d1,Zi b.a0,Zi b.a1,Zi b.b0,Zi b.b1]),(g1,.cells (bxM b (.slice A b.lows.length c) (.slice B b.highs.length d)))]) (Zpb 38 3482320895) 11 ?_ ?_
 ·clear T M
  rintro ac wc ⟨gr15_27,gr15_14,T,M⟩
  refine g_m2 (i:=20) (j:=32) (by kernel_rfl) ?_ ?_
  ·refine gi 3483369471 ?_;intro K hK
   refine ow_bs (e:=3) [Zi b.le] M T Z Z Z Z (.cons (T.e 3 Z) .nil) (fun _=>by kernel_rfl) ?_;clear M T;intro gr15_20 wc ac M T
   refine Zso hK _ _ (M.mask [false,false,false,true] Z) ?_;clear hK K
   exact H16 _ _ ⟨gr15_20,gr15_27,gr15_14,T.pick [2,0,1,3] Z,M⟩
  refine gi 7777288191 ?_;intro K hK
  refine ow_bs (e:=3) [Zi b.me] M T Z Z Z Z (.cons (T.e 2 Z) .nil) (fun _=>by kernel_rfl) ?_;clear M T;intro gr15_32 wc ac M T
  refine Zso hK _ _ (M.mask [false,false,false,true] Z) ?_;clear hK K
  exact H14 _ _ ⟨gr15_27,gr15_32,gr15_14,T.pick [2,1,0,4] Z,M.perm [1,0,2,3] Z Z⟩
 intro H12
 refine g_have (fun ac wc=>∃ (gr15_32 gr15_14:Nat),Tm ac 105 [(101,.slice (some ⟨gr15_32,0,none⟩) 1 1),(85,sv (((pre8++(b.highs.take k).flatMap (sndT highW))++([102,105,108,101]))++(rgV ([(b.u0,b.u1),(b.d0,b.d1),(b.a0,b.a1),(b.b0,b.b1)])))),(95,.agg #[Zi b.r0,Zi b.r1]),(93,.agg #[Zi b.t0,Zi b.t1]),(88,Zi b.le)]∧Mem w noEx wc [(gr15_32,.cells [Zi b.me]),(gr15_14,.cells [Zi b.u0,Zi b.u1,Zi b.d0,Zi b.d1,Zi b.a0,Zi b.a1,Zi b.b0,Zi b.b1]),(g1,.cells (bxM b (.slice A b.lows.length c) (.slice B b.highs.length d)))]) (Zpb 38 7643070463) 11 ?_ ?_
 ·clear T M
  rintro ac wc ⟨gr15_32,gr15_14,T,M⟩
  refine g_m2 (i:=20) (j:=27) (by kernel_rfl) ?_ ?_
  ·refine gi 7644119039 ?_;intro K hK
   refine ow_bs (e:=3) [Zi b.le] M T Z Z Z Z (.cons (T.e 4 Z) .nil) (fun _=>by kernel_rfl) ?_;clear M T;intro gr15_20 wc ac M T
   refine Zso hK _ _ (M.mask [false,false,false,true] Z) ?_;clear hK K
   exact H15 _ _ ⟨gr15_20,gr15_32,gr15_14,T.pick [2,0,1,3,4] Z,M⟩
  refine gi 7777288191 ?_;intro K hK
  refine ow_bs (e:=26) [Zi b.t0,Zi b.t1,Zi b.r0,Zi b.r1] M T Z Z Z Z (.cons (T.e 3 Z) (.cons (T.e 2 Z) .nil)) (fun _=>by kernel_rfl) ?_;clear M T;intro gr15_27 wc ac M T
  refine Zso hK _ _ (M.mask [false,false,false,true] Z) ?_;clear hK K
  exact H14 _ _ ⟨gr15_27,gr15_32,gr15_14,T.pick [2,0,1,5] Z,M⟩
 intro H11
 refine g_have (fun ac wc=>∃ (gr15_20 gr15_27 gr15_32 gr15_14:Nat),Tm ac 105 [(89,.slice (some ⟨gr15_20,0,none⟩) 1 1),(96,.slice (some ⟨gr15_27,0,none⟩) 2 2),(101,.slice (some ⟨gr15_32,0,none⟩) 1 1),(83,.slice (some ⟨gr15_14,0,none⟩) 4 4),(70,sv ((pre8++(b.highs.take k).flatMap (sndT highW))++([102,105,108,101])))]∧Mem w noEx wc [(gr15_20,.cells [Zi b.le]),(gr15_27,.cells [Zi b.t0,Zi b.t1,Zi b.r0,Zi b.r1]),(gr15_32,.cells [Zi b.me]),(gr15_14,.cells [Zi b.u0,Zi b.u1,Zi b.d0,Zi b.d1,Zi b.a0,Zi b.a1,Zi b.b0,Zi b.b1]),(g1,.cells (bxM b (.slice A b.lows.length c) (.slice B b.highs.length d)))]) (Zpb 38 7778238463) 11 ?_ ?_
 ·clear T M
  rintro ac wc ⟨gr15_20,gr15_27,gr15_32,gr15_14,T,M⟩
  refine gw 15 7778271231 ?_;intro K hK
  refine Zod T Z Z Z Z evf (.cons (T.e 3 Z) .nil) func41 Z Z ?_
  refine Calls.mono (vranges_any _ _ _ ([(b.u0,b.u1),(b.d0,b.d1),(b.a0,b.a1),(b.b0,b.b1)]) _ (M.rdOwn (Zne (i:=3) rfl) rfl rfl) (by omega) (by intro p hp;simp only [Zx7,Zx8,or_false] at hp;rcases hp with rfl | rfl | rfl | rfl <;> exact ⟨⟨by dsimp only;omega,by dsimp only;omega⟩,by dsimp only;omega,by dsimp only;omega⟩) (hT.mem0 M)) ?_
  clear T;rintro e wc ⟨rfl,hb⟩ ac T
  replace M:=M.call hb;clear hb
  have hrur15_15:=rgV_len ([(b.u0,b.u1),(b.d0,b.d1),(b.a0,b.a1),(b.b0,b.b1)]) (by intro p hp;simp only [Zx7,Zx8,or_false] at hp;rcases hp with rfl | rfl | rfl | rfl <;> exact ⟨⟨by dsimp only;omega,by dsimp only;omega⟩,by dsimp only;omega,by dsimp only;omega⟩)
  simp only [Zx1,Zx2] at hrur15_15
  refine Zso hK _ _ (M.mask [false,false,false,false,true] Z) ?_;clear hK K
  refine Zgq T 16 7778336767 Z (fun _=>(rn_sadd Z (T.e 5 Z) (T.e 0 Z) (by (try simp only [Zx3,Zx1,Zx2]);omega))) ?_;intro ac T
  exact H17 _ _ ⟨gr15_20,gr15_27,gr15_32,gr15_14,T.pick [0,2,3,4] Z,M⟩
 intro H10
 refine g_have (fun ac wc=>∃ (gr15_20 gr15_27 gr15_14:Nat),Tm ac 105 [(89,.slice (some ⟨gr15_20,0,none⟩) 1 1),(96,.slice (some ⟨gr15_27,0,none⟩) 2 2),(83,.slice (some ⟨gr15_14,0,none⟩) 4 4),(100,Zi b.me),(70,sv ((pre8++(b.highs.take k).flatMap (sndT highW))++([102,105,108,101])))]∧Mem w noEx wc [(gr15_20,.cells [Zi b.le]),(gr15_27,.cells [Zi b.t0,Zi b.t1,Zi b.r0,Zi b.r1]),(gr15_14,.cells [Zi b.u0,Zi b.u1,Zi b.d0,Zi b.d1,Zi b.a0,Zi b.a1,Zi b.b0,Zi b.b1]),(g1,.cells (bxM b (.slice A b.lows.length c) (.slice B b.highs.length d)))]) (Zpb 38 3483271167) 12 ?_ ?_
 ·clear T M
  rintro ac wc ⟨gr15_20,gr15_27,gr15_14,T,M⟩
  refine g_m2 (i:=15) (j:=32) (by kernel_rfl) ?_ ?_
  ·refine gi 3483303935 ?_;intro K hK
   refine Zod T Z Z Z Z evf (.cons (T.e 2 Z) .nil) func41 Z Z ?_
   refine Calls.mono (vranges_any _ _ _ ([(b.u0,b.u1),(b.d0,b.d1),(b.a0,b.a1),(b.b0,b.b1)]) _ (M.rdOwn (Zne (i:=2) rfl) rfl rfl) (by omega) (by intro p hp;simp only [Zx7,Zx8,or_false] at hp;rcases hp with rfl | rfl | rfl | rfl <;> exact ⟨⟨by dsimp only;omega,by dsimp only;omega⟩,by dsimp only;omega,by dsimp only;omega⟩) (hT.mem0 M)) ?_
   clear T;rintro e wc ⟨rfl,hb⟩ ac T
   replace M:=M.call hb;clear hb
   have hrur15_15:=rgV_len ([(b.u0,b.u1),(b.d0,b.d1),(b.a0,b.a1),(b.b0,b.b1)]) (by intro p hp;simp only [Zx7,Zx8,or_false] at hp;rcases hp with rfl | rfl | rfl | rfl <;> exact ⟨⟨by dsimp only;omega,by dsimp only;omega⟩,by dsimp only;omega,by dsimp only;omega⟩)
   simp only [Zx1,Zx2] at hrur15_15
   refine Zso hK _ _ (M.mask [false,false,false,true] Z) ?_;clear hK K
   refine Zgq T 16 3483369471 Z (fun _=>(rn_sadd Z (T.e 5 Z) (T.e 0 Z) (by (try simp only [Zx3,Zx1,Zx2]);omega))) ?_;intro ac T
   exact H16 _ _ ⟨gr15_20,gr15_27,gr15_14,T.pick [0,2,3,5] Z,M⟩
  refine gi 7778238463 ?_;intro K hK
  refine ow_bs (e:=3) [Zi b.me] M T Z Z Z Z (.cons (T.e 3 Z) .nil) (fun _=>by kernel_rfl) ?_;clear M T;intro gr15_32 wc ac M T
  refine Zso hK _ _ (M.mask [false,false,false,false,true] Z) ?_;clear hK K
  exact H10 _ _ ⟨gr15_20,gr15_27,gr15_32,gr15_14,T.pick [1,2,0,3,5] Z,M.perm [1,2,0,3,4] Z Z⟩
 intro H9
 refine g_have (fun ac wc=>∃ (gr15_20 gr15_32 gr15_14:Nat),Tm ac 105 [(89,.slice (some ⟨gr15_20,0,none⟩) 1 1),(101,.slice (some ⟨gr15_32,0,none⟩) 1 1),(83,.slice (some ⟨gr15_14,0,none⟩) 4 4),(95,.agg #[Zi b.r0,Zi b.r1]),(93,.agg #[Zi b.t0,Zi b.t1]),(70,sv ((pre8++(b.highs.take k).flatMap (sndT highW))++([102,105,108,101])))]∧Mem w noEx wc [(gr15_20,.cells [Zi b.le]),(gr15_32,.cells [Zi b.me]),(gr15_14,.cells [Zi b.u0,Zi b.u1,Zi b.d0,Zi b.d1,Zi b.a0,Zi b.a1,Zi b.b0,Zi b.b1]),(g1,.cells (bxM b (.slice A b.lows.length c) (.slice B b.highs.length d)))]) (Zpb 38 7644020735) 12 ?_ ?_
 ·clear T M
  rintro ac wc ⟨gr15_20,gr15_32,gr15_14,T,M⟩
  refine g_m2 (i:=15) (j:=27) (by kernel_rfl) ?_ ?_
  ·refine gi 7644053503 ?_;intro K hK
   refine Zod T Z Z Z Z evf (.cons (T.e 2 Z) .nil) func41 Z Z ?_
   refine Calls.mono (vranges_any _ _ _ ([(b.u0,b.u1),(b.d0,b.d1),(b.a0,b.a1),(b.b0,b.b1)]) _ (M.rdOwn (Zne (i:=2) rfl) rfl rfl) (by omega) (by intro p hp;simp only [Zx7,Zx8,or_false] at hp;rcases hp with rfl | rfl | rfl | rfl <;> exact ⟨⟨by dsimp only;omega,by dsimp only;omega⟩,by dsimp only;omega,by dsimp only;omega⟩) (hT.mem0 M)) ?_
   clear T;rintro e wc ⟨rfl,hb⟩ ac T
   replace M:=M.call hb;clear hb
   have hrur15_15:=rgV_len ([(b.u0,b.u1),(b.d0,b.d1),(b.a0,b.a1),(b.b0,b.b1)]) (by intro p hp;simp only [Zx7,Zx8,or_false] at hp;rcases hp with rfl | rfl | rfl | rfl <;> exact ⟨⟨by dsimp only;omega,by dsimp only;omega⟩,by dsimp only;omega,by dsimp only;omega⟩)
   simp only [Zx1,Zx2] at hrur15_15
   refine Zso hK _ _ (M.mask [false,false,false,true] Z) ?_;clear hK K
   refine Zgq T 16 7644119039 Z (fun _=>(rn_sadd Z (T.e 6 Z) (T.e 0 Z) (by (try simp only [Zx3,Zx1,Zx2]);omega))) ?_;intro ac T
   exact H15 _ _ ⟨gr15_20,gr15_32,gr15_14,T.pick [0,2,3,5,6] Z,M⟩
  refine gi 7778238463 ?_;intro K hK
  refine ow_bs (e:=26) [Zi b.t0,Zi b.t1,Zi b.r0,Zi b.r1] M T Z Z Z Z (.cons (T.e 4 Z) (.cons (T.e 3 Z) .nil)) (fun _=>by kernel_rfl) ?_;clear M T;intro gr15_27 wc ac M T
  refine Zso hK _ _ (M.mask [false,false,false,false,true] Z) ?_;clear hK K
  exact H10 _ _ ⟨gr15_20,gr15_27,gr15_32,gr15_14,T.pick [1,0,2,3,6] Z,M.perm [1,0,2,3,4] Z Z⟩
 intro H8
 refine g_have (fun ac wc=>∃ (gr15_27 gr15_32 gr15_20:Nat),Tm ac 105 [(96,.slice (some ⟨gr15_27,0,none⟩) 2 2),(101,.slice (some ⟨gr15_32,0,none⟩) 1 1),(89,.slice (some ⟨gr15_20,0,none⟩) 1 1),(82,.agg #[Zi b.b0,Zi b.b1]),(79,.agg #[Zi b.a0,Zi b.a1]),(76,.agg #[Zi b.d0,Zi b.d1]),(73,.agg #[Zi b.u0,Zi b.u1]),(70,sv ((pre8++(b.highs.take k).flatMap (sndT highW))++([102,105,108,101])))]∧Mem w noEx wc [(gr15_27,.cells [Zi b.t0,Zi b.t1,Zi b.r0,Zi b.r1]),(gr15_32,.cells [Zi b.me]),(gr15_20,.cells [Zi b.le]),(g1,.cells (bxM b (.slice A b.lows.length c) (.slice B b.highs.length d)))]) (Zpb 38 7778222079) 12 ?_ ?_
 ·clear T M
  rintro ac wc ⟨gr15_27,gr15_32,gr15_20,T,M⟩
  refine gw 14 7778238463 ?_;intro K hK
  refine ow_bs (e:=26) [Zi b.u0,Zi b.u1,Zi b.d0,Zi b.d1,Zi b.a0,Zi b.a1,Zi b.b0,Zi b.b1] M T Z Z Z Z (.cons (T.e 6 Z) (.cons (T.e 5 Z) (.cons (T.e 4 Z) (.cons (T.e 3 Z) .nil)))) (fun _=>by kernel_rfl) ?_;clear M T;intro gr15_14 wc ac M T
  refine Zso hK _ _ (M.mask [false,false,false,false,true] Z) ?_;clear hK K
  exact H10 _ _ ⟨gr15_20,gr15_27,gr15_32,gr15_14,T.pick [3,1,2,0,8] Z,M.perm [3,1,2,0,4] Z Z⟩
 intro H7
 refine g_have (fun ac wc=>∃ (gr15_27 gr15_32 gr15_14:Nat),Tm ac 105 [(96,.slice (some ⟨gr15_27,0,none⟩) 2 2),(101,.slice (some ⟨gr15_32,0,none⟩) 1 1),(83,.slice (some ⟨gr15_14,0,none⟩) 4 4),(88,Zi b.le),(70,sv ((pre8++(b.highs.take k).flatMap (sndT highW))++([102,105,108,101])))]∧Mem w noEx wc [(gr15_27,.cells [Zi b.t0,Zi b.t1,Zi b.r0,Zi b.r1]),(gr15_32,.cells [Zi b.me]),(gr15_14,.cells [Zi b.u0,Zi b.u1,Zi b.d0,Zi b.d1,Zi b.a0,Zi b.a1,Zi b.b0,Zi b.b1]),(g1,.cells (bxM b (.slice A b.lows.length c) (.slice B b.highs.length d)))]) (Zpb 38 7777189887) 12 ?_ ?_
 ·clear T M
  rintro ac wc ⟨gr15_27,gr15_32,gr15_14,T,M⟩
  refine g_m2 (i:=15) (j:=20) (by kernel_rfl) ?_ ?_
  ·refine gi 7777222655 ?_;intro K hK
   refine Zod T Z Z Z Z evf (.cons (T.e 2 Z) .nil) func41 Z Z ?_
   refine Calls.mono (vranges_any _ _ _ ([(b.u0,b.u1),(b.d0,b.d1),(b.a0,b.a1),(b.b0,b.b1)]) _ (M.rdOwn (Zne (i:=2) rfl) rfl rfl) (by omega) (by intro p hp;simp only [Zx7,Zx8,or_false] at hp;rcases hp with rfl | rfl | rfl | rfl <;> exact ⟨⟨by dsimp only;omega,by dsimp only;omega⟩,by dsimp only;omega,by dsimp only;omega⟩) (hT.mem0 M)) ?_
   clear T;rintro e wc ⟨rfl,hb⟩ ac T
   replace M:=M.call hb;clear hb
   have hrur15_15:=rgV_len ([(b.u0,b.u1),(b.d0,b.d1),(b.a0,b.a1),(b.b0,b.b1)]) (by intro p hp;simp only [Zx7,Zx8,or_false] at hp;rcases hp with rfl | rfl | rfl | rfl <;> exact ⟨⟨by dsimp only;omega,by dsimp only;omega⟩,by dsimp only;omega,by dsimp only;omega⟩)
   simp only [Zx1,Zx2] at hrur15_15
   refine Zso hK _ _ (M.mask [false,false,false,true] Z) ?_;clear hK K
   refine Zgq T 16 7777288191 Z (fun _=>(rn_sadd Z (T.e 5 Z) (T.e 0 Z) (by (try simp only [Zx3,Zx1,Zx2]);omega))) ?_;intro ac T
   exact H14 _ _ ⟨gr15_27,gr15_32,gr15_14,T.pick [0,2,3,5] Z,M⟩
  refine gi 7778238463 ?_;intro K hK
  refine ow_bs (e:=3) [Zi b.le] M T Z Z Z Z (.cons (T.e 3 Z) .nil) (fun _=>by kernel_rfl) ?_;clear M T;intro gr15_20 wc ac M T
  refine Zso hK _ _ (M.mask [false,false,false,false,true] Z) ?_;clear hK K
  exact H10 _ _ ⟨gr15_20,gr15_27,gr15_32,gr15_14,T.pick [0,1,2,3,5] Z,M⟩
 intro H6
 refine g_have (fun ac wc=>∃ (gr15_20 gr15_14:Nat),Tm ac 105 [(89,.slice (some ⟨gr15_20,0,none⟩) 1 1),(83,.slice (some ⟨gr15_14,0,none⟩) 4 4),(100,Zi b.me),(95,.agg #[Zi b.r0,Zi b.r1]),(93,.agg #[Zi b.t0,Zi b.t1]),(70,sv ((pre8++(b.highs.take k).flatMap (sndT highW))++([102,105,108,101])))]∧Mem w noEx wc [(gr15_20,.cells [Zi b.le]),(gr15_14,.cells [Zi b.u0,Zi b.u1,Zi b.d0,Zi b.d1,Zi b.a0,Zi b.a1,Zi b.b0,Zi b.b1]),(g1,.cells (bxM b (.slice A b.lows.length c) (.slice B b.highs.length d)))]) (Zpb 38 3349053439) 13 ?_ ?_
 ·clear T M
  rintro ac wc ⟨gr15_20,gr15_14,T,M⟩
  refine g_m3 (i:=15) (j:=27) (k:=32) (by kernel_rfl) ?_ ?_ ?_
  ·refine gi 3349086207 ?_;intro K hK
   refine Zod T Z Z Z Z evf (.cons (T.e 1 Z) .nil) func41 Z Z ?_
   refine Calls.mono (vranges_any _ _ _ ([(b.u0,b.u1),(b.d0,b.d1),(b.a0,b.a1),(b.b0,b.b1)]) _ (M.rdOwn (Zne (i:=1) rfl) rfl rfl) (by omega) (by intro p hp;simp only [Zx7,Zx8,or_false] at hp;rcases hp with rfl | rfl | rfl | rfl <;> exact ⟨⟨by dsimp only;omega,by dsimp only;omega⟩,by dsimp only;omega,by dsimp only;omega⟩) (hT.mem0 M)) ?_
   clear T;rintro e wc ⟨rfl,hb⟩ ac T
   replace M:=M.call hb;clear hb
   have hrur15_15:=rgV_len ([(b.u0,b.u1),(b.d0,b.d1),(b.a0,b.a1),(b.b0,b.b1)]) (by intro p hp;simp only [Zx7,Zx8,or_false] at hp;rcases hp with rfl | rfl | rfl | rfl <;> exact ⟨⟨by dsimp only;omega,by dsimp only;omega⟩,by dsimp only;omega,by dsimp only;omega⟩)
   simp only [Zx1,Zx2] at hrur15_15
   refine Zso hK _ _ (M.mask [false,false,true] Z) ?_;clear hK K
   refine Zgq T 16 3349151743 Z (fun _=>(rn_sadd Z (T.e 6 Z) (T.e 0 Z) (by (try simp only [Zx3,Zx1,Zx2]);omega))) ?_;intro ac T
   exact H13 _ _ ⟨gr15_20,gr15_14,T.pick [2,0,4,5,6] Z,M⟩
  ·refine gi 3483271167 ?_;intro K hK
   refine ow_bs (e:=26) [Zi b.t0,Zi b.t1,Zi b.r0,Zi b.r1] M T Z Z Z Z (.cons (T.e 4 Z) (.cons (T.e 3 Z) .nil)) (fun _=>by kernel_rfl) ?_;clear M T;intro gr15_27 wc ac M T
   refine Zso hK _ _ (M.mask [false,false,false,true] Z) ?_;clear hK K
   exact H9 _ _ ⟨gr15_20,gr15_27,gr15_14,T.pick [1,0,2,3,6] Z,M.perm [1,0,2,3] Z Z⟩
  refine gi 7644020735 ?_;intro K hK
  refine ow_bs (e:=3) [Zi b.me] M T Z Z Z Z (.cons (T.e 2 Z) .nil) (fun _=>by kernel_rfl) ?_;clear M T;intro gr15_32 wc ac M T
  refine Zso hK _ _ (M.mask [false,false,false,true] Z) ?_;clear hK K
  exact H8 _ _ ⟨gr15_20,gr15_32,gr15_14,T.pick [1,0,2,4,5,6] Z,M.perm [1,0,2,3] Z Z⟩
 intro H5
 refine g_have (fun ac wc=>∃ (gr15_27 gr15_20:Nat),Tm ac 105 [(96,.slice (some ⟨gr15_27,0,none⟩) 2 2),(89,.slice (some ⟨gr15_20,0,none⟩) 1 1),(100,Zi b.me),(82,.agg #[Zi b.b0,Zi b.b1]),(79,.agg #[Zi b.a0,Zi b.a1]),(76,.agg #[Zi b.d0,Zi b.d1]),(73,.agg #[Zi b.u0,Zi b.u1]),(70,sv ((pre8++(b.highs.take k).flatMap (sndT highW))++([102,105,108,101])))]∧Mem w noEx wc [(gr15_27,.cells [Zi b.t0,Zi b.t1,Zi b.r0,Zi b.r1]),(gr15_20,.cells [Zi b.le]),(g1,.cells (bxM b (.slice A b.lows.length c) (.slice B b.highs.length d)))]) (Zpb 38 3483254783) 13 ?_ ?_
 ·clear T M
  rintro ac wc ⟨gr15_27,gr15_20,T,M⟩
  refine g_m2 (i:=14) (j:=32) (by kernel_rfl) ?_ ?_
  ·refine gi 3483271167 ?_;intro K hK
   refine ow_bs (e:=26) [Zi b.u0,Zi b.u1,Zi b.d0,Zi b.d1,Zi b.a0,Zi b.a1,Zi b.b0,Zi b.b1] M T Z Z Z Z (.cons (T.e 6 Z) (.cons (T.e 5 Z) (.cons (T.e 4 Z) (.cons (T.e 3 Z) .nil)))) (fun _=>by kernel_rfl) ?_;clear M T;intro gr15_14 wc ac M T
   refine Zso hK _ _ (M.mask [false,false,false,true] Z) ?_;clear hK K
   exact H9 _ _ ⟨gr15_20,gr15_27,gr15_14,T.pick [2,1,0,3,8] Z,M.perm [2,1,0,3] Z Z⟩
  refine gi 7778222079 ?_;intro K hK
  refine ow_bs (e:=3) [Zi b.me] M T Z Z Z Z (.cons (T.e 2 Z) .nil) (fun _=>by kernel_rfl) ?_;clear M T;intro gr15_32 wc ac M T
  refine Zso hK _ _ (M.mask [false,false,false,true] Z) ?_;clear hK K
  exact H7 _ _ ⟨gr15_27,gr15_32,gr15_20,T.pick [1,0,2,4,5,6,7,8] Z,M.perm [1,0,2,3] Z Z⟩
 intro H4
 refine g_have (fun ac wc=>∃ (gr15_27 gr15_14:Nat),Tm ac 105 [(96,.slice (some ⟨gr15_27,0,none⟩) 2 2),(83,.slice (some ⟨gr15_14,0,none⟩) 4 4),(100,Zi b.me),(88,Zi b.le),(70,sv ((pre8++(b.highs.take k).flatMap (sndT highW))++([102,105,108,101])))]∧Mem w noEx wc [(gr15_27,.cells [Zi b.t0,Zi b.t1,Zi b.r0,Zi b.r1]),(gr15_14,.cells [Zi b.u0,Zi b.u1,Zi b.d0,Zi b.d1,Zi b.a0,Zi b.a1,Zi b.b0,Zi b.b1]),(g1,.cells (bxM b (.slice A b.lows.length c) (.slice B b.highs.length d)))]) (Zpb 38 3482222591) 13 ?_ ?_
 ·clear T M
  rintro ac wc ⟨gr15_27,gr15_14,T,M⟩
  refine g_m3 (i:=15) (j:=20) (k:=32) (by kernel_rfl) ?_ ?_ ?_
  ·refine gi 3482255359 ?_;intro K hK
   refine Zod T Z Z Z Z evf (.cons (T.e 1 Z) .nil) func41 Z Z ?_
   refine Calls.mono (vranges_any _ _ _ ([(b.u0,b.u1),(b.d0,b.d1),(b.a0,b.a1),(b.b0,b.b1)]) _ (M.rdOwn (Zne (i:=1) rfl) rfl rfl) (by omega) (by intro p hp;simp only [Zx7,Zx8,or_false] at hp;rcases hp with rfl | rfl | rfl | rfl <;> exact ⟨⟨by dsimp only;omega,by dsimp only;omega⟩,by dsimp only;omega,by dsimp only;omega⟩) (hT.mem0 M)) ?_
   clear T;rintro e wc ⟨rfl,hb⟩ ac T
   replace M:=M.call hb;clear hb
   have hrur15_15:=rgV_len ([(b.u0,b.u1),(b.d0,b.d1),(b.a0,b.a1),(b.b0,b.b1)]) (by intro p hp;simp only [Zx7,Zx8,or_false] at hp;rcases hp with rfl | rfl | rfl | rfl <;> exact ⟨⟨by dsimp only;omega,by dsimp only;omega⟩,by dsimp only;omega,by dsimp only;omega⟩)
   simp only [Zx1,Zx2] at hrur15_15
   refine Zso hK _ _ (M.mask [false,false,true] Z) ?_;clear hK K
   refine Zgq T 16 3482320895 Z (fun _=>(rn_sadd Z (T.e 5 Z) (T.e 0 Z) (by (try simp only [Zx3,Zx1,Zx2]);omega))) ?_;intro ac T
   exact H12 _ _ ⟨gr15_27,gr15_14,T.pick [2,0,4,5] Z,M⟩
  ·refine gi 3483271167 ?_;intro K hK
   refine ow_bs (e:=3) [Zi b.le] M T Z Z Z Z (.cons (T.e 3 Z) .nil) (fun _=>by kernel_rfl) ?_;clear M T;intro gr15_20 wc ac M T
   refine Zso hK _ _ (M.mask [false,false,false,true] Z) ?_;clear hK K
   exact H9 _ _ ⟨gr15_20,gr15_27,gr15_14,T.pick [0,1,2,3,5] Z,M⟩
  refine gi 7777189887 ?_;intro K hK
  refine ow_bs (e:=3) [Zi b.me] M T Z Z Z Z (.cons (T.e 2 Z) .nil) (fun _=>by kernel_rfl) ?_;clear M T;intro gr15_32 wc ac M T
  refine Zso hK _ _ (M.mask [false,false,false,true] Z) ?_;clear hK K
  exact H6 _ _ ⟨gr15_27,gr15_32,gr15_14,T.pick [1,0,2,4,5] Z,M.perm [1,0,2,3] Z Z⟩
 intro H3
 refine g_have (fun ac wc=>∃ (gr15_32 gr15_27:Nat),Tm ac 105 [(101,.slice (some ⟨gr15_32,0,none⟩) 1 1),(96,.slice (some ⟨gr15_27,0,none⟩) 2 2),(88,Zi b.le),(82,.agg #[Zi b.b0,Zi b.b1]),(79,.agg #[Zi b.a0,Zi b.a1]),(76,.agg #[Zi b.d0,Zi b.d1]),(73,.agg #[Zi b.u0,Zi b.u1]),(70,sv ((pre8++(b.highs.take k).flatMap (sndT highW))++([102,105,108,101])))]∧Mem w noEx wc [(gr15_32,.cells [Zi b.me]),(gr15_27,.cells [Zi b.t0,Zi b.t1,Zi b.r0,Zi b.r1]),(g1,.cells (bxM b (.slice A b.lows.length c) (.slice B b.highs.length d)))]) (Zpb 38 7777173503) 13 ?_ ?_
 ·clear T M
  rintro ac wc ⟨gr15_32,gr15_27,T,M⟩
  refine g_m2 (i:=14) (j:=20) (by kernel_rfl) ?_ ?_
  ·refine gi 7777189887 ?_;intro K hK
   refine ow_bs (e:=26) [Zi b.u0,Zi b.u1,Zi b.d0,Zi b.d1,Zi b.a0,Zi b.a1,Zi b.b0,Zi b.b1] M T Z Z Z Z (.cons (T.e 6 Z) (.cons (T.e 5 Z) (.cons (T.e 4 Z) (.cons (T.e 3 Z) .nil)))) (fun _=>by kernel_rfl) ?_;clear M T;intro gr15_14 wc ac M T
   refine Zso hK _ _ (M.mask [false,false,false,true] Z) ?_;clear hK K
   exact H6 _ _ ⟨gr15_27,gr15_32,gr15_14,T.pick [2,1,0,3,8] Z,M.perm [2,1,0,3] Z Z⟩
  refine gi 7778222079 ?_;intro K hK
  refine ow_bs (e:=3) [Zi b.le] M T Z Z Z Z (.cons (T.e 2 Z) .nil) (fun _=>by kernel_rfl) ?_;clear M T;intro gr15_20 wc ac M T
  refine Zso hK _ _ (M.mask [false,false,false,true] Z) ?_;clear hK K
  exact H7 _ _ ⟨gr15_27,gr15_32,gr15_20,T.pick [2,1,0,4,5,6,7,8] Z,M.perm [2,1,0,3] Z Z⟩
 intro H2
 refine g_have (fun ac wc=>∃ (gr15_32 gr15_20:Nat),Tm ac 105 [(101,.slice (some ⟨gr15_32,0,none⟩) 1 1),(89,.slice (some ⟨gr15_20,0,none⟩) 1 1),(95,.agg #[Zi b.r0,Zi b.r1]),(93,.agg #[Zi b.t0,Zi b.t1]),(82,.agg #[Zi b.b0,Zi b.b1]),(79,.agg #[Zi b.a0,Zi b.a1]),(76,.agg #[Zi b.d0,Zi b.d1]),(73,.agg #[Zi b.u0,Zi b.u1]),(70,sv ((pre8++(b.highs.take k).flatMap (sndT highW))++([102,105,108,101])))]∧Mem w noEx wc [(gr15_32,.cells [Zi b.me]),(gr15_20,.cells [Zi b.le]),(g1,.cells (bxM b (.slice A b.lows.length c) (.slice B b.highs.length d)))]) (Zpb 38 7644004351) 13 ?_ ?_
 ·clear T M
  rintro ac wc ⟨gr15_32,gr15_20,T,M⟩
  refine g_m2 (i:=14) (j:=27) (by kernel_rfl) ?_ ?_
  ·refine gi 7644020735 ?_;intro K hK
   refine ow_bs (e:=26) [Zi b.u0,Zi b.u1,Zi b.d0,Zi b.d1,Zi b.a0,Zi b.a1,Zi b.b0,Zi b.b1] M T Z Z Z Z (.cons (T.e 7 Z) (.cons (T.e 6 Z) (.cons (T.e 5 Z) (.cons (T.e 4 Z) .nil)))) (fun _=>by kernel_rfl) ?_;clear M T;intro gr15_14 wc ac M T
   refine Zso hK _ _ (M.mask [false,false,false,true] Z) ?_;clear hK K
   exact H8 _ _ ⟨gr15_20,gr15_32,gr15_14,T.pick [2,1,0,3,4,9] Z,M.perm [2,1,0,3] Z Z⟩
  refine gi 7778222079 ?_;intro K hK
  refine ow_bs (e:=26) [Zi b.t0,Zi b.t1,Zi b.r0,Zi b.r1] M T Z Z Z Z (.cons (T.e 3 Z) (.cons (T.e 2 Z) .nil)) (fun _=>by kernel_rfl) ?_;clear M T;intro gr15_27 wc ac M T
  refine Zso hK _ _ (M.mask [false,false,false,true] Z) ?_;clear hK K
  exact H7 _ _ ⟨gr15_27,gr15_32,gr15_20,T.pick [0,1,2,5,6,7,8,9] Z,M⟩
 intro H1
 refine g_have (fun ac wc=>∃ (gr15_32 gr15_14:Nat),Tm ac 105 [(101,.slice (some ⟨gr15_32,0,none⟩) 1 1),(83,.slice (some ⟨gr15_14,0,none⟩) 4 4),(95,.agg #[Zi b.r0,Zi b.r1]),(93,.agg #[Zi b.t0,Zi b.t1]),(88,Zi b.le),(70,sv ((pre8++(b.highs.take k).flatMap (sndT highW))++([102,105,108,101])))]∧Mem w noEx wc [(gr15_32,.cells [Zi b.me]),(gr15_14,.cells [Zi b.u0,Zi b.u1,Zi b.d0,Zi b.d1,Zi b.a0,Zi b.a1,Zi b.b0,Zi b.b1]),(g1,.cells (bxM b (.slice A b.lows.length c) (.slice B b.highs.length d)))]) (Zpb 38 7642972159) 13 ?_ ?_
 ·clear T M
  rintro ac wc ⟨gr15_32,gr15_14,T,M⟩
  refine g_m3 (i:=15) (j:=20) (k:=27) (by kernel_rfl) ?_ ?_ ?_
  ·refine gi 7643004927 ?_;intro K hK
   refine Zod T Z Z Z Z evf (.cons (T.e 1 Z) .nil) func41 Z Z ?_
   refine Calls.mono (vranges_any _ _ _ ([(b.u0,b.u1),(b.d0,b.d1),(b.a0,b.a1),(b.b0,b.b1)]) _ (M.rdOwn (Zne (i:=1) rfl) rfl rfl) (by omega) (by intro p hp;simp only [Zx7,Zx8,or_false] at hp;rcases hp with rfl | rfl | rfl | rfl <;> exact ⟨⟨by dsimp only;omega,by dsimp only;omega⟩,by dsimp only;omega,by dsimp only;omega⟩) (hT.mem0 M)) ?_
   clear T;rintro e wc ⟨rfl,hb⟩ ac T
   replace M:=M.call hb;clear hb
   have hrur15_15:=rgV_len ([(b.u0,b.u1),(b.d0,b.d1),(b.a0,b.a1),(b.b0,b.b1)]) (by intro p hp;simp only [Zx7,Zx8,or_false] at hp;rcases hp with rfl | rfl | rfl | rfl <;> exact ⟨⟨by dsimp only;omega,by dsimp only;omega⟩,by dsimp only;omega,by dsimp only;omega⟩)
   simp only [Zx1,Zx2] at hrur15_15
   refine Zso hK _ _ (M.mask [false,false,true] Z) ?_;clear hK K
   refine Zgq T 16 7643070463 Z (fun _=>(rn_sadd Z (T.e 6 Z) (T.e 0 Z) (by (try simp only [Zx3,Zx1,Zx2]);omega))) ?_;intro ac T
   exact H11 _ _ ⟨gr15_32,gr15_14,T.pick [2,0,4,5,6] Z,M⟩
  ·refine gi 7644020735 ?_;intro K hK
   refine ow_bs (e:=3) [Zi b.le] M T Z Z Z Z (.cons (T.e 4 Z) .nil) (fun _=>by kernel_rfl) ?_;clear M T;intro gr15_20 wc ac M T
   refine Zso hK _ _ (M.mask [false,false,false,true] Z) ?_;clear hK K
   exact H8 _ _ ⟨gr15_20,gr15_32,gr15_14,T.pick [0,1,2,3,4,6] Z,M⟩
  refine gi 7777189887 ?_;intro K hK
  refine ow_bs (e:=26) [Zi b.t0,Zi b.t1,Zi b.r0,Zi b.r1] M T Z Z Z Z (.cons (T.e 3 Z) (.cons (T.e 2 Z) .nil)) (fun _=>by kernel_rfl) ?_;clear M T;intro gr15_27 wc ac M T
  refine Zso hK _ _ (M.mask [false,false,false,true] Z) ?_;clear hK K
  exact H6 _ _ ⟨gr15_27,gr15_32,gr15_14,T.pick [0,1,2,5,6] Z,M⟩
 intro H0
 refine Zgq T 0 1 Z (fun _=>(Zrm Z (T.e 2 Z))) ?_;intro ac T
 refine Zgq T 1 3 Z (fun _=>(rn_sadd Z (T.e 0 Z) evc (by (try simp only [Zx3,Zx1,Zx2]);omega))) ?_;intro ac T
 refine Zgq (v:=(.pointer (some ⟨g1,11,none⟩))) T 2 7 Z (fun _=>(Zrg 11 Z (T.e 3 Z))) ?_;intro ac T
 refine Zgq (v:=(.pointer (some ⟨g1,11,none⟩))) T 3 15 Z (fun _=>(Zrg 0 Z (T.e 0 Z))) ?_;intro ac T
 refine gq T 4 31 Z (fun B w' hD hl hS=>(Zrr (Mem.nth (show Mem w noEx w' _ from hS) 0 Z) Z (T.e 0 Z) Z)) ?_;intro ac T
 refine Zgq (v:=(.pointer (some ⟨g1,11,none⟩))) T 5 63 Z (fun _=>(Zrg 11 Z (T.e 6 Z))) ?_;intro ac T
 refine Zgq (v:=(.pointer (some ⟨g1,13,none⟩))) T 6 127 Z (fun _=>(Zrg 2 Z (T.e 0 Z))) ?_;intro ac T
 refine gq T 7 255 Z (fun B w' hD hl hS=>(Zrr (Mem.nth (show Mem w noEx w' _ from hS) 0 Z) Z (T.e 0 Z) Z)) ?_;intro ac T
 refine Zgq (v:=(.pointer (some ⟨g1,11,none⟩))) T 8 511 Z (fun _=>(Zrg 11 Z (T.e 9 Z))) ?_;intro ac T
 refine Zgq (v:=(.pointer (some ⟨g1,15,none⟩))) T 9 1023 Z (fun _=>(Zrg 4 Z (T.e 0 Z))) ?_;intro ac T
 refine gq T 10 2047 Z (fun B w' hD hl hS=>(Zrr (Mem.nth (show Mem w noEx w' _ from hS) 0 Z) Z (T.e 0 Z) Z)) ?_;intro ac T
 refine Zgq (v:=(.pointer (some ⟨g1,11,none⟩))) T 11 4095 Z (fun _=>(Zrg 11 Z (T.e 12 Z))) ?_;intro ac T
 refine Zgq (v:=(.pointer (some ⟨g1,17,none⟩))) T 12 8191 Z (fun _=>(Zrg 6 Z (T.e 0 Z))) ?_;intro ac T
 refine gq T 13 16383 Z (fun B w' hD hl hS=>(Zrr (Mem.nth (show Mem w noEx w' _ from hS) 0 Z) Z (T.e 0 Z) Z)) ?_;intro ac T
 refine Zgq (v:=(.pointer (some ⟨g1,11,none⟩))) T 17 147455 Z (fun _=>(Zrg 11 Z (T.e 15 Z))) ?_;intro ac T
 refine Zgq (v:=(.pointer (some ⟨g1,19,none⟩))) T 18 409599 Z (fun _=>(Zrg 8 Z (T.e 0 Z))) ?_;intro ac T
 refine gq T 19 933887 Z (fun B w' hD hl hS=>(Zro (Mem.nth (show Mem w noEx w' _ from hS) 0 Z) Z (T.e 0 Z) Z)) ?_;intro ac T
 refine Zgq (v:=(.pointer (some ⟨g1,7,none⟩))) T 23 9322495 Z (fun _=>(Zrg 7 Z (T.e 18 Z))) ?_;intro ac T
 refine gq T 24 26099711 Z (fun B w' hD hl hS=>(Zrr (Mem.nth (show Mem w noEx w' _ from hS) 0 Z) Z (T.e 0 Z) Z)) ?_;intro ac T
 refine Zgq (v:=(.pointer (some ⟨g1,9,none⟩))) T 25 59654143 Z (fun _=>(Zrg 9 Z (T.e 20 Z))) ?_;intro ac T
 refine gq T 26 126763007 Z (fun B w' hD hl hS=>(Zrr (Mem.nth (show Mem w noEx w' _ from hS) 0 Z) Z (T.e 0 Z) Z)) ?_;intro ac T
 refine Zgq (v:=(.pointer (some ⟨g1,20,none⟩))) T 30 1200504831 Z (fun _=>(Zrg 20 Z (T.e 22 Z))) ?_;intro ac T
 refine gq T 31 3347988479 Z (fun B w' hD hl hS=>(Zro (Mem.nth (show Mem w noEx w' _ from hS) 0 Z) Z (T.e 0 Z) Z)) ?_;intro ac T
 refine g_m4 (i:=14) (j:=20) (k:=27) (k4:=32) (by kernel_rfl) ?_ ?_ ?_ ?_
 ·refine gi 3348004863 ?_;intro K hK
  refine ow_bs (e:=26) [Zi b.u0,Zi b.u1,Zi b.d0,Zi b.d1,Zi b.a0,Zi b.a1,Zi b.b0,Zi b.b1] M T Z Z Z Z (.cons (T.e 18 Z) (.cons (T.e 15 Z) (.cons (T.e 12 Z) (.cons (T.e 9 Z) .nil)))) (fun _=>by kernel_rfl) ?_;clear M T;intro gr15_14 wc ac M T
  refine Zso hK _ _ (M.mask [false,true] Z) ?_;clear hK K
  refine g_m4 (i:=15) (j:=20) (k:=27) (k4:=32) (by kernel_rfl) ?_ ?_ ?_ ?_
  ·refine gi 3348037631 ?_;intro K hK
   refine Zod T Z Z Z Z evf (.cons (T.e 0 Z) .nil) func41 Z Z ?_
   refine Calls.mono (vranges_any _ _ _ ([(b.u0,b.u1),(b.d0,b.d1),(b.a0,b.a1),(b.b0,b.b1)]) _ (M.rdOwn (Zne (i:=0) rfl) rfl rfl) (by omega) (by intro p hp;simp only [Zx7,Zx8,or_false] at hp;rcases hp with rfl | rfl | rfl | rfl <;> exact ⟨⟨by dsimp only;omega,by dsimp only;omega⟩,by dsimp only;omega,by dsimp only;omega⟩) (hT.mem0 M)) ?_
   clear T;rintro e wc ⟨rfl,hb⟩ ac T
   replace M:=M.call hb;clear hb
   have hrur15_15:=rgV_len ([(b.u0,b.u1),(b.d0,b.d1),(b.a0,b.a1),(b.b0,b.b1)]) (by intro p hp;simp only [Zx7,Zx8,or_false] at hp;rcases hp with rfl | rfl | rfl | rfl <;> exact ⟨⟨by dsimp only;omega,by dsimp only;omega⟩,by dsimp only;omega,by dsimp only;omega⟩)
   simp only [Zx1,Zx2] at hrur15_15
   refine Zso hK _ _ (M.mask [false,true] Z) ?_;clear hK K
   refine Zgq T 16 3348103167 Z (fun _=>(rn_sadd Z (T.e 23 Z) (T.e 0 Z) (by (try simp only [Zx3,Zx1,Zx2]);omega))) ?_;intro ac T
   refine g_m3 (i:=20) (j:=27) (k:=32) (by kernel_rfl) ?_ ?_ ?_
   ·refine gi 3349151743 ?_;intro K hK
    refine ow_bs (e:=3) [Zi b.le] M T Z Z Z Z (.cons (T.e 9 Z) .nil) (fun _=>by kernel_rfl) ?_;clear M T;intro gr15_20 wc ac M T
    refine Zso hK _ _ (M.mask [false,false,true] Z) ?_;clear hK K
    exact H13 _ _ ⟨gr15_20,gr15_14,T.pick [0,1,4,6,8] Z,M⟩
   ·refine gi 3482320895 ?_;intro K hK
    refine ow_bs (e:=26) [Zi b.t0,Zi b.t1,Zi b.r0,Zi b.r1] M T Z Z Z Z (.cons (T.e 7 Z) (.cons (T.e 5 Z) .nil)) (fun _=>by kernel_rfl) ?_;clear M T;intro gr15_27 wc ac M T
    refine Zso hK _ _ (M.mask [false,false,true] Z) ?_;clear hK K
    exact H12 _ _ ⟨gr15_27,gr15_14,T.pick [0,1,4,10] Z,M⟩
   refine gi 7643070463 ?_;intro K hK
   refine ow_bs (e:=3) [Zi b.me] M T Z Z Z Z (.cons (T.e 3 Z) .nil) (fun _=>by kernel_rfl) ?_;clear M T;intro gr15_32 wc ac M T
   refine Zso hK _ _ (M.mask [false,false,true] Z) ?_;clear hK K
   exact H11 _ _ ⟨gr15_32,gr15_14,T.pick [0,1,6,8,10] Z,M⟩
  ·refine gi 3349053439 ?_;intro K hK
   refine ow_bs (e:=3) [Zi b.le] M T Z Z Z Z (.cons (T.e 7 Z) .nil) (fun _=>by kernel_rfl) ?_;clear M T;intro gr15_20 wc ac M T
   refine Zso hK _ _ (M.mask [false,false,true] Z) ?_;clear hK K
   exact H5 _ _ ⟨gr15_20,gr15_14,T.pick [0,1,2,4,6,23] Z,M⟩
  ·refine gi 3482222591 ?_;intro K hK
   refine ow_bs (e:=26) [Zi b.t0,Zi b.t1,Zi b.r0,Zi b.r1] M T Z Z Z Z (.cons (T.e 5 Z) (.cons (T.e 3 Z) .nil)) (fun _=>by kernel_rfl) ?_;clear M T;intro gr15_27 wc ac M T
   refine Zso hK _ _ (M.mask [false,false,true] Z) ?_;clear hK K
   exact H3 _ _ ⟨gr15_27,gr15_14,T.pick [0,1,2,8,23] Z,M⟩
  refine gi 7642972159 ?_;intro K hK
  refine ow_bs (e:=3) [Zi b.me] M T Z Z Z Z (.cons (T.e 1 Z) .nil) (fun _=>by kernel_rfl) ?_;clear M T;intro gr15_32 wc ac M T
  refine Zso hK _ _ (M.mask [false,false,true] Z) ?_;clear hK K
  exact H0 _ _ ⟨gr15_32,gr15_14,T.pick [0,1,4,6,8,23] Z,M⟩
 ·refine gi 3349037055 ?_;intro K hK
  refine ow_bs (e:=3) [Zi b.le] M T Z Z Z Z (.cons (T.e 6 Z) .nil) (fun _=>by kernel_rfl) ?_;clear M T;intro gr15_20 wc ac M T
  refine Zso hK _ _ (M.mask [false,true] Z) ?_;clear hK K
  refine g_m3 (i:=14) (j:=27) (k:=32) (by kernel_rfl) ?_ ?_ ?_
  ·refine gi 3349053439 ?_;intro K hK
   refine ow_bs (e:=26) [Zi b.u0,Zi b.u1,Zi b.d0,Zi b.d1,Zi b.a0,Zi b.a1,Zi b.b0,Zi b.b1] M T Z Z Z Z (.cons (T.e 19 Z) (.cons (T.e 16 Z) (.cons (T.e 13 Z) (.cons (T.e 10 Z) .nil)))) (fun _=>by kernel_rfl) ?_;clear M T;intro gr15_14 wc ac M T
   refine Zso hK _ _ (M.mask [false,false,true] Z) ?_;clear hK K
   exact H5 _ _ ⟨gr15_20,gr15_14,T.pick [1,0,2,4,6,23] Z,M.perm [1,0,2] Z Z⟩
  ·refine gi 3483254783 ?_;intro K hK
   refine ow_bs (e:=26) [Zi b.t0,Zi b.t1,Zi b.r0,Zi b.r1] M T Z Z Z Z (.cons (T.e 5 Z) (.cons (T.e 3 Z) .nil)) (fun _=>by kernel_rfl) ?_;clear M T;intro gr15_27 wc ac M T
   refine Zso hK _ _ (M.mask [false,false,true] Z) ?_;clear hK K
   exact H4 _ _ ⟨gr15_27,gr15_20,T.pick [0,1,2,11,14,17,20,23] Z,M⟩
  refine gi 7644004351 ?_;intro K hK
  refine ow_bs (e:=3) [Zi b.me] M T Z Z Z Z (.cons (T.e 1 Z) .nil) (fun _=>by kernel_rfl) ?_;clear M T;intro gr15_32 wc ac M T
  refine Zso hK _ _ (M.mask [false,false,true] Z) ?_;clear hK K
  exact H1 _ _ ⟨gr15_32,gr15_20,T.pick [0,1,4,6,11,14,17,20,23] Z,M⟩
 ·refine gi 3482206207 ?_;intro K hK
  refine ow_bs (e:=26) [Zi b.t0,Zi b.t1,Zi b.r0,Zi b.r1] M T Z Z Z Z (.cons (T.e 4 Z) (.cons (T.e 2 Z) .nil)) (fun _=>by kernel_rfl) ?_;clear M T;intro gr15_27 wc ac M T
  refine Zso hK _ _ (M.mask [false,true] Z) ?_;clear hK K
  refine g_m3 (i:=14) (j:=20) (k:=32) (by kernel_rfl) ?_ ?_ ?_
  ·refine gi 3482222591 ?_;intro K hK
   refine ow_bs (e:=26) [Zi b.u0,Zi b.u1,Zi b.d0,Zi b.d1,Zi b.a0,Zi b.a1,Zi b.b0,Zi b.b1] M T Z Z Z Z (.cons (T.e 19 Z) (.cons (T.e 16 Z) (.cons (T.e 13 Z) (.cons (T.e 10 Z) .nil)))) (fun _=>by kernel_rfl) ?_;clear M T;intro gr15_14 wc ac M T
   refine Zso hK _ _ (M.mask [false,false,true] Z) ?_;clear hK K
   exact H3 _ _ ⟨gr15_27,gr15_14,T.pick [1,0,2,8,23] Z,M.perm [1,0,2] Z Z⟩
  ·refine gi 3483254783 ?_;intro K hK
   refine ow_bs (e:=3) [Zi b.le] M T Z Z Z Z (.cons (T.e 7 Z) .nil) (fun _=>by kernel_rfl) ?_;clear M T;intro gr15_20 wc ac M T
   refine Zso hK _ _ (M.mask [false,false,true] Z) ?_;clear hK K
   exact H4 _ _ ⟨gr15_27,gr15_20,T.pick [1,0,2,11,14,17,20,23] Z,M.perm [1,0,2] Z Z⟩
  refine gi 7777173503 ?_;intro K hK
  refine ow_bs (e:=3) [Zi b.me] M T Z Z Z Z (.cons (T.e 1 Z) .nil) (fun _=>by kernel_rfl) ?_;clear M T;intro gr15_32 wc ac M T
  refine Zso hK _ _ (M.mask [false,false,true] Z) ?_;clear hK K
  exact H2 _ _ ⟨gr15_32,gr15_27,T.pick [0,1,8,11,14,17,20,23] Z,M⟩
 refine gi 7642955775 ?_;intro K hK
 refine ow_bs (e:=3) [Zi b.me] M T Z Z Z Z (.cons (T.e 0 Z) .nil) (fun _=>by kernel_rfl) ?_;clear M T;intro gr15_32 wc ac M T
 refine Zso hK _ _ (M.mask [false,true] Z) ?_;clear hK K
 refine g_m3 (i:=14) (j:=20) (k:=27) (by kernel_rfl) ?_ ?_ ?_
 ·refine gi 7642972159 ?_;intro K hK
  refine ow_bs (e:=26) [Zi b.u0,Zi b.u1,Zi b.d0,Zi b.d1,Zi b.a0,Zi b.a1,Zi b.b0,Zi b.b1] M T Z Z Z Z (.cons (T.e 19 Z) (.cons (T.e 16 Z) (.cons (T.e 13 Z) (.cons (T.e 10 Z) .nil)))) (fun _=>by kernel_rfl) ?_;clear M T;intro gr15_14 wc ac M T
  refine Zso hK _ _ (M.mask [false,false,true] Z) ?_;clear hK K
  exact H0 _ _ ⟨gr15_32,gr15_14,T.pick [1,0,4,6,8,23] Z,M.perm [1,0,2] Z Z⟩
 ·refine gi 7644004351 ?_;intro K hK
  refine ow_bs (e:=3) [Zi b.le] M T Z Z Z Z (.cons (T.e 7 Z) .nil) (fun _=>by kernel_rfl) ?_;clear M T;intro gr15_20 wc ac M T
  refine Zso hK _ _ (M.mask [false,false,true] Z) ?_;clear hK K
  exact H1 _ _ ⟨gr15_32,gr15_20,T.pick [1,0,4,6,11,14,17,20,23] Z,M.perm [1,0,2] Z Z⟩
 refine gi 7777173503 ?_;intro K hK
 refine ow_bs (e:=26) [Zi b.t0,Zi b.t1,Zi b.r0,Zi b.r1] M T Z Z Z Z (.cons (T.e 5 Z) (.cons (T.e 3 Z) .nil)) (fun _=>by kernel_rfl) ?_;clear M T;intro gr15_27 wc ac M T
 refine Zso hK _ _ (M.mask [false,false,true] Z) ?_;clear hK K
 exact H2 _ _ ⟨gr15_32,gr15_27,T.pick [1,0,8,11,14,17,20,23] Z,M.perm [1,0,2] Z Z⟩
set_option maxHeartbeats 4000000 in
theorem write5_any (b:Bx) (A:Option Addr) (c:Nat) (B:Option Addr) (d:Nat) (w:World) (hA:Rd w w.heap.size 4 A b.lows.length (sc b.lows)) (hB:Rd w w.heap.size 4 B b.highs.length (sc b.highs)) (nA:b.lows.length≤1000000) (nB:b.highs.length≤1000000) (hT:StrW w)  :
   Calls prog 11 #[bxV b A c B d] w fun e w'=>e=.returned (.tuple #[sv (wrV b),Zi (checkB b)])∧Below w.heap.size w w':=by
 have hlA:=hA.len4
 have hlB:=hB.len4
 obtain ⟨bA,oA,SA⟩:=Sp.old hA
 obtain ⟨bB,oB,SB⟩:=Sp.old hB
 refine Zpx noEx func11 Z 142 Z [bxV b A c B d] Z Z (Mem.init w _) ?_
 intro ac wc T M
 refine Zsr ?_
 refine Zl2 ?_
 refine Zob M T Z Z Z Z (T.e 0 Z) Z ?_;clear M T;intro g1 wc ac M T
 refine Zg2 T (Zq (Zra Z evc)) Z (Zc Z) Z ?_;intro ac T
 replace T:=T.pick [2] rfl
 refine Zln ?_
 refine wp_seq ?_
 refine Zsr ?_
 refine lq T (Zrr (Mem.nth M 0 Z) Z (T.e 0 Z) Z) ?_;intro ac T
 refine Zl2 ?_
 refine Zod T Z Z Z Z evf (.cons (T.e 0 Z) .nil) func42 Z Z ?_
 refine Calls.mono (Check5_any b _ _ _ _ _ (SA.rd M (Zz9 _)) (SB.rd M (Zz9 _)) (by omega) (by omega)) ?_
 clear T;rintro e wc ⟨rfl,hb⟩ ac T
 replace M:=M.call hb;clear hb
 refine lq T (Zra Z (T.e 0 Z)) ?_;intro ac T
 replace T:=T.pick [0,3] rfl
 refine Zln ?_
 refine Zsr ?_
 refine Zg2 T (Zq (Zrm Z (T.e 0 Z))) Z (fun _ T=>Zq (rn_neq Z (T.e 0 Z) evc)) Z ?_;intro ac T
 replace T:=T.pick [0,2,3] rfl
 refine Zln ?_
 refine wp_ifn (T.e 0 Z) ?_ ?_
 ·intro h1
  refine Zsr ?_
  refine Zg3 T (Zq (Zrm Z (T.e 1 Z))) Z (Zc Z) Z (Za 1 Z Z) Z ?_;intro ac T
  refine wpList_nil ?_
  replace T:=T.pick [0,1] rfl
  replace M:=M.mask [false] rfl
  refine Znr ?_
  refine Zrt ?_
  refine rt_2 T Z (T.e 1 Z) (T.e 0 Z) ?_
  have e9:wrV b=[]:=by unfold wrV;rw [if_neg (by assumption)]
  rw [e9]
  exact ⟨rfl,M.below⟩
 intro h1
 have gb:=checkB_good.1 (show checkB b=0 by omega)
 have gj:=good_of gb.job
 have gq1:=gb.law.first
 have gq2:=gb.law.step
 have gq3:=gb.law.span
 have gq4:=gb.law.press
 have gq5:=gb.note
 have gq6:=gj.t
 have gq7:=gj.r
 have gq8:=gj.u
 have gq9:=gj.d
 have gq10:=gj.a
 have gq11:=gj.b
 have gq12:=gj.le
 have gq13:=gj.me
 simp only [Bx.law,blankJ] at gq1 gq2 gq3 gq4 gq6 gq7 gq8 gq9 gq10 gq11 gq12 gq13
 have gq14:=gb.lows.1
 have gq15:=gb.highs.1
 have hIfirst:=itoa_len (v:=b.first) ⟨by omega,by omega⟩
 have hIstep:=itoa_len (v:=b.step) ⟨by omega,by omega⟩
 have hIspan:=itoa_len (v:=b.span) ⟨by omega,by omega⟩
 have hIpress:=itoa_len (v:=b.press) ⟨by omega,by omega⟩
 have hInote:=itoa_len (v:=b.note) ⟨by omega,by omega⟩
 have hIt0:=itoa_len (v:=b.t0) ⟨by omega,by omega⟩
 have hIt1:=itoa_len (v:=b.t1) ⟨by omega,by omega⟩
 have hIr0:=itoa_len (v:=b.r0) ⟨by omega,by omega⟩
 have hIr1:=itoa_len (v:=b.r1) ⟨by omega,by omega⟩
 have hIu0:=itoa_len (v:=b.u0) ⟨by omega,by omega⟩
 have hIu1:=itoa_len (v:=b.u1) ⟨by omega,by omega⟩
 have hId0:=itoa_len (v:=b.d0) ⟨by omega,by omega⟩
 have hId1:=itoa_len (v:=b.d1) ⟨by omega,by omega⟩
 have hIa0:=itoa_len (v:=b.a0) ⟨by omega,by omega⟩
 have hIa1:=itoa_len (v:=b.a1) ⟨by omega,by omega⟩
 have hIb0:=itoa_len (v:=b.b0) ⟨by omega,by omega⟩
 have hIb1:=itoa_len (v:=b.b1) ⟨by omega,by omega⟩
 have hIle:=itoa_len (v:=b.le) ⟨by omega,by omega⟩
 have hIme:=itoa_len (v:=b.me) ⟨by omega,by omega⟩
 refine Zsk ?_
 refine wp_seq ?_
 refine Zgs M (M.mask [true] Z) 30 (by kernel_rfl) Z (by kernel_rfl) ?_
 clear M;intro wc M
 refine Zgq (v:=(Zj g1)) T 0 1 Z (fun _=>(Zrg 0 Z (T.e 2 Z))) ?_;intro ac T
 refine Zgq (v:=(Zj g1)) T 1 3 Z (fun _=>(Zrg 0 Z (T.e 0 Z))) ?_;intro ac T
 refine gq T 2 7 Z (fun B w' hD hl hS=>(Zro (Mem.nth (show Mem w noEx w' _ from hS) 0 Z) Z (T.e 0 Z) Z)) ?_;intro ac T
 refine Zgq (v:=(Zj g1)) T 6 71 Z (fun _=>(Zrg 0 Z (T.e 5 Z))) ?_;intro ac T
 refine Zgq (v:=(.pointer (some ⟨g1,1,none⟩))) T 7 199 Z (fun _=>(Zrg 1 Z (T.e 0 Z))) ?_;intro ac T
 refine gq T 8 455 Z (fun B w' hD hl hS=>(Zro (Mem.nth (show Mem w noEx w' _ from hS) 0 Z) Z (T.e 0 Z) Z)) ?_;intro ac T
 refine Zgq (v:=(Zj g1)) T 12 4551 Z (fun _=>(Zrg 0 Z (T.e 8 Z))) ?_;intro ac T
 refine Zgq (v:=(.pointer (some ⟨g1,2,none⟩))) T 13 12743 Z (fun _=>(Zrg 2 Z (T.e 0 Z))) ?_;intro ac T
 refine gq T 14 29127 Z (fun B w' hD hl hS=>(Zro (Mem.nth (show Mem w noEx w' _ from hS) 0 Z) Z (T.e 0 Z) Z)) ?_;intro ac T
 refine Zgq (v:=(Zj g1)) T 18 291271 Z (fun _=>(Zrg 0 Z (T.e 11 Z))) ?_;intro ac T
 refine Zgq (v:=(.pointer (some ⟨g1,3,none⟩))) T 19 815559 Z (fun _=>(Zrg 3 Z (T.e 0 Z))) ?_;intro ac T
 refine gq T 20 1864135 Z (fun B w' hD hl hS=>(Zro (Mem.nth (show Mem w noEx w' _ from hS) 0 Z) Z (T.e 0 Z) Z)) ?_;intro ac T
 refine Zgq (v:=(.pointer (some ⟨g1,4,none⟩))) T 24 18641351 Z (fun _=>(Zrg 4 Z (T.e 14 Z))) ?_;intro ac T
 refine gq T 25 52195783 Z (fun B w' hD hl hS=>(Zro (Mem.nth (show Mem w noEx w' _ from hS) 0 Z) Z (T.e 0 Z) Z)) ?_;intro ac T
 refine gw 3 52195791 ?_;intro K hK
 refine Zod T Z Z Z Z evf (.cons (T.e 11 Z) .nil) func43 Z Z ?_
 refine Calls.mono (Itoa_any b.first _ (by (try dsimp only);omega) (hT.mem0 M)) ?_
 clear T;rintro e wc ⟨rfl,hb⟩ ac T
 replace M:=M.call hb;clear hb
 have hiu2:=itoa_len (v:=b.first) ⟨by (try dsimp only);omega,by (try dsimp only);omega⟩
 refine Zso hK _ _ (M.mask [true] Z) ?_;clear hK K
 refine Zgq T 4 52195807 Z (fun _=>(rn_sadd Z evc (T.e 0 Z) (by (try simp only [Zx3,Zx1,Zx2]);omega))) ?_;intro ac T
 refine Zgq T 5 52195839 Z (fun _=>(rn_sadd Z (T.e 0 Z) evc (by (try simp only [Zx3,Zx1,Zx2]);omega))) ?_;intro ac T
 refine gw 9 52196351 ?_;intro K hK
 refine Zod T Z Z Z Z evf (.cons (T.e 11 Z) .nil) func43 Z Z ?_
 refine Calls.mono (Itoa_any b.step _ (by (try dsimp only);omega) (hT.mem0 M)) ?_
 clear T;rintro e wc ⟨rfl,hb⟩ ac T
 replace M:=M.call hb;clear hb
 have hiu3:=itoa_len (v:=b.step) ⟨by (try dsimp only);omega,by (try dsimp only);omega⟩
 refine Zso hK _ _ (M.mask [true] Z) ?_;clear hK K
 refine Zgq T 10 52197375 Z (fun _=>(rn_sadd Z (T.e 1 Z) (T.e 0 Z) (by (try simp only [Zx3,Zx1,Zx2]);omega))) ?_;intro ac T
 refine Zgq T 11 52199423 Z (fun _=>(rn_sadd Z (T.e 0 Z) evc (by (try simp only [Zx3,Zx1,Zx2]);omega))) ?_;intro ac T
 refine gw 15 52232191 ?_;intro K hK
 refine Zod T Z Z Z Z evf (.cons (T.e 11 Z) .nil) func43 Z Z ?_
 refine Calls.mono (Itoa_any b.span _ (by (try dsimp only);omega) (hT.mem0 M)) ?_
 clear T;rintro e wc ⟨rfl,hb⟩ ac T
 replace M:=M.call hb;clear hb
 have hiu4:=itoa_len (v:=b.span) ⟨by (try dsimp only);omega,by (try dsimp only);omega⟩
 refine Zso hK _ _ (M.mask [true] Z) ?_;clear hK K
 refine Zgq T 16 52297727 Z (fun _=>(rn_sadd Z (T.e 1 Z) (T.e 0 Z) (by (try simp only [Zx3,Zx1,Zx2]);omega))) ?_;intro ac T
 refine Zgq T 17 52428799 Z (fun _=>(rn_sadd Z (T.e 0 Z) evc (by (try simp only [Zx3,Zx1,Zx2]);omega))) ?_;intro ac T
 refine gw 21 54525951 ?_;intro K hK
 refine Zod T Z Z Z Z evf (.cons (T.e 11 Z) .nil) func43 Z Z ?_
 refine Calls.mono (Itoa_any b.press _ (by (try dsimp only);omega) (hT.mem0 M)) ?_
 clear T;rintro e wc ⟨rfl,hb⟩ ac T
 replace M:=M.call hb;clear hb
 have hiu5:=itoa_len (v:=b.press) ⟨by (try dsimp only);omega,by (try dsimp only);omega⟩
 refine Zso hK _ _ (M.mask [true] Z) ?_;clear hK K
 refine Zgq T 22 58720255 Z (fun _=>(rn_sadd Z (T.e 1 Z) (T.e 0 Z) (by (try simp only [Zx3,Zx1,Zx2]);omega))) ?_;intro ac T
 refine Zgq T 23 67108863 Z (fun _=>(rn_sadd Z (T.e 0 Z) evc (by (try simp only [Zx3,Zx1,Zx2]);omega))) ?_;intro ac T
 refine gw 26 134217727 ?_;intro K hK
 refine Zod T Z Z Z Z evf (.cons (T.e 12 Z) .nil) func43 Z Z ?_
 refine Calls.mono (Itoa_any b.note _ (by (try dsimp only);omega) (hT.mem0 M)) ?_
 clear T;rintro e wc ⟨rfl,hb⟩ ac T
 replace M:=M.call hb;clear hb
 have hiu6:=itoa_len (v:=b.note) ⟨by (try dsimp only);omega,by (try dsimp only);omega⟩
 refine Zso hK _ _ (M.mask [true] Z) ?_;clear hK K
 refine Zgq T 27 268435455 Z (fun _=>(rn_sadd Z (T.e 1 Z) (T.e 0 Z) (by (try simp only [Zx3,Zx1,Zx2]);omega))) ?_;intro ac T
 refine Zgq T 28 536870911 Z (fun _=>(rn_sadd Z (T.e 0 Z) evc (by (try simp only [Zx3,Zx1,Zx2]);omega))) ?_;intro ac T
 refine Zgq T 29 1073741823 Z (fun _=>(Zra Z (T.e 0 Z))) ?_;intro ac T
 refine Zgd (by kernel_rfl) ?_
 replace T:=T.pick [0,32] rfl
 refine Zns ?_
 refine Zsr ?_
 refine lq T (Zra Z evc) ?_;intro ac T
 refine Zln ?_
 refine wp_block ?_
 obtain ⟨pre9,hpre9⟩:∃ q:List UInt8,q=((((((((((([108,97,119,44])++(Lib.itoa b.first))++([44]))++(Lib.itoa b.step))++([44]))++(Lib.itoa b.span))++([44]))++(Lib.itoa b.press))++([44]))++(Lib.itoa b.note))++([10])):=⟨_,rfl⟩
 rw [← hpre9] at T
 have lpre9:=congrArg List.length hpre9
 simp only [Zx3,Zx1,Zx2] at lpre9
 refine wp_loop_n (fun mz ac wc=>∃ (k:Nat),mz=b.lows.length - k∧(k≤b.lows.length)∧(((b.lows.take k).flatMap (sndT lowW)).length≤k * 27)∧Tm ac 142 [(1,Zj g1),(5,sv (pre9++(b.lows.take k).flatMap (sndT lowW))),(6,Zi (k:Int))]∧Mem w noEx wc [(g1,.cells (bxM b (.slice A b.lows.length c) (.slice B b.highs.length d)))]) ?_ ?_
 ·have e0:pre9=pre9++(b.lows.take 0).flatMap (sndT lowW):=by simp
  rw [e0] at T
  exact ⟨_,0,Z,(Nat.zero_le _),(Nat.le_refl _),T.pick [2,1,0] Z,M.mask [true] Z⟩
 clear T M
 rintro mz ac wc ⟨k,hmm1,hk,hspre9,T,M⟩
 refine wp_seq ?_
 refine Zsr ?_
 refine Zg5 (v2:=(.pointer (some ⟨g1,5,none⟩))) T (Zq (Zrm Z (T.e 2 Z))) Z (Zf 5 1 Z Z) Z (Zo M 0 0 Z Z Z Z) Z (Zl underlying24 0 Z Z) Z (fun _ T=>Zq (rn_lss Z (T.e 3 Z) (T.e 0 Z))) Z ?_;intro ac T
 replace T:=T.pick [0,5,6,7] rfl
 refine Zln ?_
 refine wp_if (T.e 0 Z) ?_ ?_
 ·intro h2
  obtain ⟨x,hkx,-⟩:=sc_next (l:=b.lows) (k:=k) (by omega)
  have hx:=gb.lows.2 _ (List.mem_of_getElem? hkx)
  have hx1:=hx.t
  have hx2:=hx.s
  have hS9:=sndT_len (w:=lowW) (by decide) (b.lows.take (k+1)) (fun p hp=>gb.lows.2 p ((List.take_sublist _ _).subset hp))
  rw [List.length_take] at hS9
  refine Zsk ?_
  refine wp_seq ?_
  refine wp_block ?_
  refine Zgs M (M.mask [true] Z) 21 (by kernel_rfl) Z (by kernel_rfl) ?_
  clear M;intro wc M
  refine Zgq T 0 1 Z (fun _=>(Zrm Z (T.e 2 Z))) ?_;intro ac T
  refine Zgq T 1 3 Z (fun _=>(rn_sadd Z (T.e 0 Z) evc (by (try simp only [Zx3,Zx1,Zx2]);omega))) ?_;intro ac T
  refine Zgq (v:=(.pointer (some ⟨g1,5,none⟩))) T 2 7 Z (fun _=>(Zrg 5 Z (T.e 3 Z))) ?_;intro ac T
  refine gq T 3 15 Z (fun B w' hD hl hS=>(Zro (Mem.nth (show Mem w noEx w' _ from hS) 0 Z) Z (T.e 0 Z) Z)) ?_;intro ac T
  refine Zgq T 4 31 Z (fun _=>(Zrm Z (T.e 7 Z))) ?_;intro ac T
  refine Zgq T 5 63 Z (fun _=>(Zri (size:=4) k Z (T.e 1 Z) (T.e 0 Z) ⟨_,underlying24,by kernel_rfl⟩ Z (by omega) (SA.at0 (by omega)))) ?_;intro ac T
  refine Zgq T 6 127 Z (fun _=>(Zrg 0 Z (T.e 0 Z))) ?_;intro ac T
  refine gq (v:=(.agg #[Zi x.t0,Zi x.t1])) T 7 255 Z (fun B w' hD hl hS=>(rn_rowat (Sp.scR02 SA (show Mem w noEx w' _ from hS) (Zz9 _) hkx) Z (T.e 0 Z) Z)) ?_;intro ac T
  refine Zgq (v:=(.pointer (some ⟨g1,5,none⟩))) T 11 2303 Z (fun _=>(Zrg 5 Z (T.e 9 Z))) ?_;intro ac T
  refine gq T 12 6399 Z (fun B w' hD hl hS=>(Zro (Mem.nth (show Mem w noEx w' _ from hS) 0 Z) Z (T.e 0 Z) Z)) ?_;intro ac T
  refine Zgq T 13 14591 Z (fun _=>(Zrm Z (T.e 13 Z))) ?_;intro ac T
  refine Zgq T 14 30975 Z (fun _=>(Zri (size:=4) k Z (T.e 1 Z) (T.e 0 Z) ⟨_,underlying24,by kernel_rfl⟩ Z (by omega) (SA.at0 (by omega)))) ?_;intro ac T
  refine Zgq T 15 63743 Z (fun _=>(Zrg 2 Z (T.e 0 Z))) ?_;intro ac T
  refine gq (v:=(.agg #[Zi x.s0,Zi x.s1])) T 16 129279 Z (fun B w' hD hl hS=>(rn_rowat (Sp.scR22 SA (show Mem w noEx w' _ from hS) (Zz9 _) hkx) Z (T.e 0 Z) Z)) ?_;intro ac T
  refine gw 8 129535 ?_;intro K hK
  refine Zod T Z Z Z Z evf (.cons (T.e 6 Z) .nil) func44 Z Z ?_
  refine Calls.mono (told5_any x.t0 x.t1 _ ⟨by (try dsimp only);omega,by (try dsimp only);omega⟩ ⟨by (try dsimp only);omega,by (try dsimp only);omega⟩ (hT.mem0 M)) ?_
  clear T;rintro e wc ⟨rfl,hb⟩ ac T
  replace M:=M.call hb;clear hb
  have hiu7:=itoa_len (v:=x.t0) ⟨by (try dsimp only);omega,by (try dsimp only);omega⟩
  have hju7:=itoa_len (v:=x.t1) ⟨by (try dsimp only);omega,by (try dsimp only);omega⟩
  refine Zso hK _ _ (M.mask [true] Z) ?_;clear hK K
  refine Zgq T 9 130047 Z (fun _=>(rn_sadd Z (T.e 13 Z) (T.e 0 Z) (by (try simp only [Zx3,Zx1,Zx2]);omega))) ?_;intro ac T
  refine Zgq T 10 131071 Z (fun _=>(rn_sadd Z (T.e 0 Z) evc (by (try simp only [Zx3,Zx1,Zx2]);omega))) ?_;intro ac T
  refine gw 17 262143 ?_;intro K hK
  refine Zod T Z Z Z Z evf (.cons (T.e 3 Z) .nil) func44 Z Z ?_
  refine Calls.mono (told5_any x.s0 x.s1 _ ⟨by (try dsimp only);omega,by (try dsimp only);omega⟩ ⟨by (try dsimp only);omega,by (try dsimp only);omega⟩ (hT.mem0 M)) ?_
  clear T;rintro e wc ⟨rfl,hb⟩ ac T
  replace M:=M.call hb;clear hb
  have hiu8:=itoa_len (v:=x.s0) ⟨by (try dsimp only);omega,by (try dsimp only);omega⟩
  have hju8:=itoa_len (v:=x.s1) ⟨by (try dsimp only);omega,by (try dsimp only);omega⟩
  refine Zso hK _ _ (M.mask [true] Z) ?_;clear hK K
  refine Zgq T 18 524287 Z (fun _=>(rn_sadd Z (T.e 1 Z) (T.e 0 Z) (by (try simp only [Zx3,Zx1,Zx2]);omega))) ?_;intro ac T
  refine Zgq T 19 1048575 Z (fun _=>(rn_sadd Z (T.e 0 Z) evc (by (try simp only [Zx3,Zx1,Zx2]);omega))) ?_;intro ac T
  refine g_q (v:=(sv ((((((pre9++(b.lows.take k).flatMap (sndT lowW))++([108,111,119,44]))++(Lib.itoa x.t0++[46,46]++Lib.itoa x.t1))++([44]))++(Lib.itoa x.s0++[46,46]++Lib.itoa x.s1))++([10])))) (T:=T.pick [0,1,2,3,4,5,6,7,8,9,10,11,12,13,14,15,16,17,18,19,20,21,23] Z) (i:=20) Z (by kernel_rfl) (by kernel_rfl:(Zpb 21 1048575).setIfInBounds 20 true=Zpb 21 2097151) si_U (fun _ _ _ h=>h) Z Z Z Z (fun _ _ _ _ _=>(Zra Z (T.e 0 Z))) ?_;intro ac T
  refine Zgd (by kernel_rfl) ?_
  replace T:=T.pick [0,22,23] rfl
  refine Znb ?_
  refine nm_then ?_
  refine wp_region_lit ?_
  refine Zg2 T (Zq (Zrm Z (T.e 2 Z))) Z (fun _ T=>Zq (rn_add Z (T.e 0 Z) evc (by omega))) Z ?_;intro ac T
  refine l_q (v:=(Zi ((k:Int)+1))) (T.pick [0,1,2,3] Z) Z Z Z Z (Zra Z (T.e 0 Z)) ?_;intro ac T
  replace T:=T.pick [0,3,4] rfl
  refine Zln ?_
  have e9:((((((pre9++(b.lows.take k).flatMap (sndT lowW))++([108,111,119,44]))++(Lib.itoa x.t0++[46,46]++Lib.itoa x.t1))++([44]))++(Lib.itoa x.s0++[46,46]++Lib.itoa x.s1))++([10]))=pre9++(b.lows.take (k+1)).flatMap (sndT lowW):=by rw [take_sn hkx,List.flatMap_append];simp [sndT,lowW,rgV]
  rw [e9] at T
  exact ⟨_,by omega,k+1,Z,(by omega),(by omega),T.pick [2,1,0] Z,M.mask [true] Z⟩
 intro h2
 have ekpre9:b.lows.take k=b.lows:=List.take_of_length_le (by omega)
 refine wp_exit ?_
 refine Zet ?_
 refine Zet ?_
 refine ex_hit ?_
 refine Zns ?_
 refine Zsr ?_
 refine lq T (Zra Z evc) ?_;intro ac T
 replace T:=T.pick [0,2,3] rfl
 refine Zln ?_
 refine wp_block ?_
 obtain ⟨pre8,hpre8⟩:∃ q:List UInt8,q=(pre9++(b.lows.take k).flatMap (sndT lowW)):=⟨_,rfl⟩
 rw [← hpre8] at T
 have lpre8:=congrArg List.length hpre8
 simp only [Zx3,Zx1,Zx2] at lpre8
 refine wp_loop_n (fun mz ac wc=>∃ (k:Nat),mz=b.highs.length - k∧(k≤b.highs.length)∧(((b.highs.take k).flatMap (sndT highW)).length≤k * 27)∧Tm ac 142 [(1,Zj g1),(5,sv (pre8++(b.highs.take k).flatMap (sndT highW))),(7,Zi (k:Int))]∧Mem w noEx wc [(g1,.cells (bxM b (.slice A b.lows.length c) (.slice B b.highs.length d)))]) ?_ ?_
 ·have e0:pre8=pre8++(b.highs.take 0).flatMap (sndT highW):=by simp
  rw [e0] at T
  exact ⟨_,0,Z,(Nat.zero_le _),(Nat.le_refl _),T.pick [1,2,0] Z,M.mask [true] Z⟩
 clear T M
 rintro mz ac wc ⟨k,hmm2,hk,hspre8,T,M⟩
 refine wp_seq ?_
 refine Zsr ?_
 refine Zg5 (v2:=(.pointer (some ⟨g1,6,none⟩))) T (Zq (Zrm Z (T.e 2 Z))) Z (Zf 6 1 Z Z) Z (Zo M 0 0 Z Z Z Z) Z (Zl underlying24 0 Z Z) Z (fun _ T=>Zq (rn_lss Z (T.e 3 Z) (T.e 0 Z))) Z ?_;intro ac T
 replace T:=T.pick [0,5,6,7] rfl
 refine Zln ?_
 refine wp_if (T.e 0 Z) ?_ ?_
 ·intro h3
  obtain ⟨x,hkx,-⟩:=sc_next (l:=b.highs) (k:=k) (by omega)
  have hx:=gb.highs.2 _ (List.mem_of_getElem? hkx)
  have hx1:=hx.t
  have hx2:=hx.s
  have hS9:=sndT_len (w:=highW) (by decide) (b.highs.take (k+1)) (fun p hp=>gb.highs.2 p ((List.take_sublist _ _).subset hp))
  rw [List.length_take] at hS9
  refine Zsk ?_
  refine wp_seq ?_
  refine wp_block ?_
  refine Zgs M (M.mask [true] Z) 21 (by kernel_rfl) Z (by kernel_rfl) ?_
  clear M;intro wc M
  refine Zgq T 0 1 Z (fun _=>(Zrm Z (T.e 2 Z))) ?_;intro ac T
  refine Zgq T 1 3 Z (fun _=>(rn_sadd Z (T.e 0 Z) evc (by (try simp only [Zx3,Zx1,Zx2]);omega))) ?_;intro ac T
  refine Zgq (v:=(.pointer (some ⟨g1,6,none⟩))) T 2 7 Z (fun _=>(Zrg 6 Z (T.e 3 Z))) ?_;intro ac T
  refine gq T 3 15 Z (fun B w' hD hl hS=>(Zro (Mem.nth (show Mem w noEx w' _ from hS) 0 Z) Z (T.e 0 Z) Z)) ?_;intro ac T
  refine Zgq T 4 31 Z (fun _=>(Zrm Z (T.e 7 Z))) ?_;intro ac T
  refine Zgq T 5 63 Z (fun _=>(Zri (size:=4) k Z (T.e 1 Z) (T.e 0 Z) ⟨_,underlying24,by kernel_rfl⟩ Z (by omega) (SB.at0 (by omega)))) ?_;intro ac T
  refine Zgq T 6 127 Z (fun _=>(Zrg 0 Z (T.e 0 Z))) ?_;intro ac T
  refine gq (v:=(.agg #[Zi x.t0,Zi x.t1])) T 7 255 Z (fun B w' hD hl hS=>(rn_rowat (Sp.scR02 SB (show Mem w noEx w' _ from hS) (Zz9 _) hkx) Z (T.e 0 Z) Z)) ?_;intro ac T
  refine Zgq (v:=(.pointer (some ⟨g1,6,none⟩))) T 11 2303 Z (fun _=>(Zrg 6 Z (T.e 9 Z))) ?_;intro ac T
  refine gq T 12 6399 Z (fun B w' hD hl hS=>(Zro (Mem.nth (show Mem w noEx w' _ from hS) 0 Z) Z (T.e 0 Z) Z)) ?_;intro ac T
  refine Zgq T 13 14591 Z (fun _=>(Zrm Z (T.e 13 Z))) ?_;intro ac T
  refine Zgq T 14 30975 Z (fun _=>(Zri (size:=4) k Z (T.e 1 Z) (T.e 0 Z) ⟨_,underlying24,by kernel_rfl⟩ Z (by omega) (SB.at0 (by omega)))) ?_;intro ac T
  refine Zgq T 15 63743 Z (fun _=>(Zrg 2 Z (T.e 0 Z))) ?_;intro ac T
  refine gq (v:=(.agg #[Zi x.s0,Zi x.s1])) T 16 129279 Z (fun B w' hD hl hS=>(rn_rowat (Sp.scR22 SB (show Mem w noEx w' _ from hS) (Zz9 _) hkx) Z (T.e 0 Z) Z)) ?_;intro ac T
  refine gw 8 129535 ?_;intro K hK
  refine Zod T Z Z Z Z evf (.cons (T.e 6 Z) .nil) func44 Z Z ?_
  refine Calls.mono (told5_any x.t0 x.t1 _ ⟨by (try dsimp only);omega,by (try dsimp only);omega⟩ ⟨by (try dsimp only);omega,by (try dsimp only);omega⟩ (hT.mem0 M)) ?_
  clear T;rintro e wc ⟨rfl,hb⟩ ac T
  replace M:=M.call hb;clear hb
  have hiu9:=itoa_len (v:=x.t0) ⟨by (try dsimp only);omega,by (try dsimp only);omega⟩
  have hju9:=itoa_len (v:=x.t1) ⟨by (try dsimp only);omega,by (try dsimp only);omega⟩
  refine Zso hK _ _ (M.mask [true] Z) ?_;clear hK K
  refine Zgq T 9 130047 Z (fun _=>(rn_sadd Z (T.e 13 Z) (T.e 0 Z) (by (try simp only [Zx3,Zx1,Zx2]);omega))) ?_;intro ac T
  refine Zgq T 10 131071 Z (fun _=>(rn_sadd Z (T.e 0 Z) evc (by (try simp only [Zx3,Zx1,Zx2]);omega))) ?_;intro ac T
  refine gw 17 262143 ?_;intro K hK
  refine Zod T Z Z Z Z evf (.cons (T.e 3 Z) .nil) func44 Z Z ?_
  refine Calls.mono (told5_any x.s0 x.s1 _ ⟨by (try dsimp only);omega,by (try dsimp only);omega⟩ ⟨by (try dsimp only);omega,by (try dsimp only);omega⟩ (hT.mem0 M)) ?_
  clear T;rintro e wc ⟨rfl,hb⟩ ac T
  replace M:=M.call hb;clear hb
  have hiu10:=itoa_len (v:=x.s0) ⟨by (try dsimp only);omega,by (try dsimp only);omega⟩
  have hju10:=itoa_len (v:=x.s1) ⟨by (try dsimp only);omega,by (try dsimp only);omega⟩
  refine Zso hK _ _ (M.mask [true] Z) ?_;clear hK K
  refine Zgq T 18 524287 Z (fun _=>(rn_sadd Z (T.e 1 Z) (T.e 0 Z) (by (try simp only [Zx3,Zx1,Zx2]);omega))) ?_;intro ac T
  refine Zgq T 19 1048575 Z (fun _=>(rn_sadd Z (T.e 0 Z) evc (by (try simp only [Zx3,Zx1,Zx2]);omega))) ?_;intro ac T
  refine g_q (v:=(sv ((((((pre8++(b.highs.take k).flatMap (sndT highW))++([104,105,103,104,44]))++(Lib.itoa x.t0++[46,46]++Lib.itoa x.t1))++([44]))++(Lib.itoa x.s0++[46,46]++Lib.itoa x.s1))++([10])))) (T:=T.pick [0,1,2,3,4,5,6,7,8,9,10,11,12,13,14,15,16,17,18,19,20,21,23] Z) (i:=20) Z (by kernel_rfl) (by kernel_rfl:(Zpb 21 1048575).setIfInBounds 20 true=Zpb 21 2097151) si_U (fun _ _ _ h=>h) Z Z Z Z (fun _ _ _ _ _=>(Zra Z (T.e 0 Z))) ?_;intro ac T
  refine Zgd (by kernel_rfl) ?_
  replace T:=T.pick [0,22,23] rfl
  refine Znb ?_
  refine nm_then ?_
  refine wp_region_lit ?_
  refine Zg2 T (Zq (Zrm Z (T.e 2 Z))) Z (fun _ T=>Zq (rn_add Z (T.e 0 Z) evc (by omega))) Z ?_;intro ac T
  refine l_q (v:=(Zi ((k:Int)+1))) (T.pick [0,1,2,3] Z) Z Z Z Z (Zra Z (T.e 0 Z)) ?_;intro ac T
  replace T:=T.pick [0,3,4] rfl
  refine Zln ?_
  have e9:((((((pre8++(b.highs.take k).flatMap (sndT highW))++([104,105,103,104,44]))++(Lib.itoa x.t0++[46,46]++Lib.itoa x.t1))++([44]))++(Lib.itoa x.s0++[46,46]++Lib.itoa x.s1))++([10]))=pre8++(b.highs.take (k+1)).flatMap (sndT highW):=by rw [take_sn hkx,List.flatMap_append];simp [sndT,highW,rgV]
  rw [e9] at T
  exact ⟨_,by omega,k+1,Z,(by omega),(by omega),T.pick [2,1,0] Z,M.mask [true] Z⟩
 intro h3
 have ekpre8:b.highs.take k=b.highs:=List.take_of_length_le (by omega)
 refine wp_exit ?_
 refine Zet ?_
 refine Zet ?_
 refine ex_hit ?_
 refine nm_then ?_
 refine Zsr ?_
 refine Zg2 (v1:=(.pointer (some ⟨g1,11,none⟩))) T (Zq (Zrg 11 Z (T.e 1 Z))) Z (Zr M 0 0 Z Z Z Z) Z ?_;intro ac T
 refine Zl2 ?_
 refine Zoa M T Z Z Z Z ?_;clear M T;intro g2 wc ac M T
 refine Zl2 ?_
 refine Zot M T Z Z (T.e 0 Z) (T.e 1 Z) Z .head Z Z ?_;clear M T;intro wc ac M T
 replace T:=T.pick [0,4,5] rfl
 refine Zln ?_
 refine wp_seq ?_
 refine Zgs M (M.mask [true,true] Z) 27 (by kernel_rfl) Z (by kernel_rfl) ?_
 clear M;intro wc M
 refine Zgq T 0 1 Z (fun _=>(Zrm Z (T.e 2 Z))) ?_;intro ac T
 refine Zgq T 1 3 Z (fun _=>(rn_sadd Z (T.e 0 Z) evc (by (try simp only [Zx3,Zx1,Zx2]);omega))) ?_;intro ac T
 refine Zgq (v:=(Zj g2)) T 2 7 Z (fun _=>(Zrg 0 Z (T.e 2 Z))) ?_;intro ac T
 refine gq T 3 15 Z (fun B w' hD hl hS=>(Zrr (Mem.nth (show Mem w noEx w' _ from hS) 0 Z) Z (T.e 0 Z) Z)) ?_;intro ac T
 refine Zgq (v:=(.pointer (some ⟨g2,2,none⟩))) T 7 143 Z (fun _=>(Zrg 2 Z (T.e 4 Z))) ?_;intro ac T
 refine gq T 8 399 Z (fun B w' hD hl hS=>(Zrr (Mem.nth (show Mem w noEx w' _ from hS) 0 Z) Z (T.e 0 Z) Z)) ?_;intro ac T
 refine Zgq (v:=(.pointer (some ⟨g2,4,none⟩))) T 12 4495 Z (fun _=>(Zrg 4 Z (T.e 6 Z))) ?_;intro ac T
 refine gq T 13 12687 Z (fun B w' hD hl hS=>(Zrr (Mem.nth (show Mem w noEx w' _ from hS) 0 Z) Z (T.e 0 Z) Z)) ?_;intro ac T
 refine Zgq (v:=(.pointer (some ⟨g2,6,none⟩))) T 17 143759 Z (fun _=>(Zrg 6 Z (T.e 8 Z))) ?_;intro ac T
 refine gq T 18 405903 Z (fun B w' hD hl hS=>(Zrr (Mem.nth (show Mem w noEx w' _ from hS) 0 Z) Z (T.e 0 Z) Z)) ?_;intro ac T
 refine Zgq (v:=(.pointer (some ⟨g2,8,none⟩))) T 22 4600207 Z (fun _=>(Zrg 8 Z (T.e 10 Z))) ?_;intro ac T
 refine gq T 23 12988815 Z (fun B w' hD hl hS=>(Zro (Mem.nth (show Mem w noEx w' _ from hS) 0 Z) Z (T.e 0 Z) Z)) ?_;intro ac T
 refine gw 4 12988831 ?_;intro K hK
 refine Zod T Z Z Z Z evf (.cons (T.e 8 Z) .nil) func44 Z Z ?_
 refine Calls.mono (told5_any b.u0 b.u1 _ ⟨by (try dsimp only);omega,by (try dsimp only);omega⟩ ⟨by (try dsimp only);omega,by (try dsimp only);omega⟩ (hT.mem0 M)) ?_
 clear T;rintro e wc ⟨rfl,hb⟩ ac T
 replace M:=M.call hb;clear hb
 have hiu11:=itoa_len (v:=b.u0) ⟨by (try dsimp only);omega,by (try dsimp only);omega⟩
 have hju11:=itoa_len (v:=b.u1) ⟨by (try dsimp only);omega,by (try dsimp only);omega⟩
 refine Zso hK _ _ (M.mask [true,true] Z) ?_;clear hK K
 refine Zgq T 5 12988863 Z (fun _=>(rn_sadd Z (T.e 11 Z) (T.e 0 Z) (by (try simp only [Zx3,Zx1,Zx2]);omega))) ?_;intro ac T
 refine Zgq T 6 12988927 Z (fun _=>(rn_sadd Z (T.e 0 Z) evc (by (try simp only [Zx3,Zx1,Zx2]);omega))) ?_;intro ac T
 refine gw 9 12989439 ?_;intro K hK
 refine Zod T Z Z Z Z evf (.cons (T.e 9 Z) .nil) func44 Z Z ?_
 refine Calls.mono (told5_any b.d0 b.d1 _ ⟨by (try dsimp only);omega,by (try dsimp only);omega⟩ ⟨by (try dsimp only);omega,by (try dsimp only);omega⟩ (hT.mem0 M)) ?_
 clear T;rintro e wc ⟨rfl,hb⟩ ac T
 replace M:=M.call hb;clear hb
 have hiu12:=itoa_len (v:=b.d0) ⟨by (try dsimp only);omega,by (try dsimp only);omega⟩
 have hju12:=itoa_len (v:=b.d1) ⟨by (try dsimp only);omega,by (try dsimp only);omega⟩
 refine Zso hK _ _ (M.mask [true,true] Z) ?_;clear hK K
 refine Zgq T 10 12990463 Z (fun _=>(rn_sadd Z (T.e 1 Z) (T.e 0 Z) (by (try simp only [Zx3,Zx1,Zx2]);omega))) ?_;intro ac T
 refine Zgq T 11 12992511 Z (fun _=>(rn_sadd Z (T.e 0 Z) evc (by (try simp only [Zx3,Zx1,Zx2]);omega))) ?_;intro ac T
 refine gw 14 13008895 ?_;intro K hK
 refine Zod T Z Z Z Z evf (.cons (T.e 10 Z) .nil) func44 Z Z ?_
 refine Calls.mono (told5_any b.a0 b.a1 _ ⟨by (try dsimp only);omega,by (try dsimp only);omega⟩ ⟨by (try dsimp only);omega,by (try dsimp only);omega⟩ (hT.mem0 M)) ?_
 clear T;rintro e wc ⟨rfl,hb⟩ ac T
 replace M:=M.call hb;clear hb
 have hiu13:=itoa_len (v:=b.a0) ⟨by (try dsimp only);omega,by (try dsimp only);omega⟩
 have hju13:=itoa_len (v:=b.a1) ⟨by (try dsimp only);omega,by (try dsimp only);omega⟩
 refine Zso hK _ _ (M.mask [true,true] Z) ?_;clear hK K
 refine Zgq T 15 13041663 Z (fun _=>(rn_sadd Z (T.e 1 Z) (T.e 0 Z) (by (try simp only [Zx3,Zx1,Zx2]);omega))) ?_;intro ac T
 refine Zgq T 16 13107199 Z (fun _=>(rn_sadd Z (T.e 0 Z) evc (by (try simp only [Zx3,Zx1,Zx2]);omega))) ?_;intro ac T
 refine gw 19 13631487 ?_;intro K hK
 refine Zod T Z Z Z Z evf (.cons (T.e 11 Z) .nil) func44 Z Z ?_
 refine Calls.mono (told5_any b.b0 b.b1 _ ⟨by (try dsimp only);omega,by (try dsimp only);omega⟩ ⟨by (try dsimp only);omega,by (try dsimp only);omega⟩ (hT.mem0 M)) ?_
 clear T;rintro e wc ⟨rfl,hb⟩ ac T
 replace M:=M.call hb;clear hb
 have hiu14:=itoa_len (v:=b.b0) ⟨by (try dsimp only);omega,by (try dsimp only);omega⟩
 have hju14:=itoa_len (v:=b.b1) ⟨by (try dsimp only);omega,by (try dsimp only);omega⟩
 refine Zso hK _ _ (M.mask [true,true] Z) ?_;clear hK K
 refine Zgq T 20 14680063 Z (fun _=>(rn_sadd Z (T.e 1 Z) (T.e 0 Z) (by (try simp only [Zx3,Zx1,Zx2]);omega))) ?_;intro ac T
 refine Zgq T 21 16777215 Z (fun _=>(rn_sadd Z (T.e 0 Z) evc (by (try simp only [Zx3,Zx1,Zx2]);omega))) ?_;intro ac T
 refine gw 24 33554431 ?_;intro K hK
 refine Zod T Z Z Z Z evf (.cons (T.e 12 Z) .nil) func43 Z Z ?_
 refine Calls.mono (Itoa_any b.le _ (by (try dsimp only);omega) (hT.mem0 M)) ?_
 clear T;rintro e wc ⟨rfl,hb⟩ ac T
 replace M:=M.call hb;clear hb
 have hiu15:=itoa_len (v:=b.le) ⟨by (try dsimp only);omega,by (try dsimp only);omega⟩
 refine Zso hK _ _ (M.mask [true,true] Z) ?_;clear hK K
 refine Zgq T 25 67108863 Z (fun _=>(rn_sadd Z (T.e 1 Z) (T.e 0 Z) (by (try simp only [Zx3,Zx1,Zx2]);omega))) ?_;intro ac T
 refine g_q (v:=(sv (((((((((((pre8++(b.highs.take k).flatMap (sndT highW))++([102,105,108,101,44]))++(Lib.itoa b.u0++[46,46]++Lib.itoa b.u1))++([44]))++(Lib.itoa b.d0++[46,46]++Lib.itoa b.d1))++([44]))++(Lib.itoa b.a0++[46,46]++Lib.itoa b.a1))++([44]))++(Lib.itoa b.b0++[46,46]++Lib.itoa b.b1))++([44]))++(Lib.itoa b.le)))) (T:=T.pick [0,1,2,3,4,5,6,7,8,9,10,11,12,13,14,15,16,17,18,19,20,21,22,23,24,25,26,27] Z) (i:=26) Z (by kernel_rfl) (by kernel_rfl:(Zpb 27 67108863).setIfInBounds 26 true=Zpb 27 134217727) si_U (fun _ _ _ h=>h) Z Z Z Z (fun _ _ _ _ _=>(Zra Z (T.e 0 Z))) ?_;intro ac T
 refine Zgd (by kernel_rfl) ?_
 replace T:=T.pick [0,28] rfl
 replace M:=M.mask [false,true] rfl
 refine Zns ?_
 refine Zgs M (M.mask [true] Z) 19 (by kernel_rfl) Z (by kernel_rfl) ?_
 clear M;intro wc M
 refine Zgq T 0 1 Z (fun _=>(Zrm Z (T.e 0 Z))) ?_;intro ac T
 refine Zgq T 1 3 Z (fun _=>(rn_sadd Z (T.e 0 Z) evc (by (try simp only [Zx3,Zx1,Zx2]);omega))) ?_;intro ac T
 refine Zgq (v:=(.pointer (some ⟨g1,7,none⟩))) T 2 7 Z (fun _=>(Zrg 7 Z (T.e 3 Z))) ?_;intro ac T
 refine gq T 3 15 Z (fun B w' hD hl hS=>(Zrr (Mem.nth (show Mem w noEx w' _ from hS) 0 Z) Z (T.e 0 Z) Z)) ?_;intro ac T
 refine Zgq (v:=(.pointer (some ⟨g1,9,none⟩))) T 7 143 Z (fun _=>(Zrg 9 Z (T.e 5 Z))) ?_;intro ac T
 refine gq T 8 399 Z (fun B w' hD hl hS=>(Zrr (Mem.nth (show Mem w noEx w' _ from hS) 0 Z) Z (T.e 0 Z) Z)) ?_;intro ac T
 refine Zgq (v:=(.pointer (some ⟨g1,20,none⟩))) T 12 4495 Z (fun _=>(Zrg 20 Z (T.e 7 Z))) ?_;intro ac T
 refine gq T 13 12687 Z (fun B w' hD hl hS=>(Zro (Mem.nth (show Mem w noEx w' _ from hS) 0 Z) Z (T.e 0 Z) Z)) ?_;intro ac T
 refine gw 4 12703 ?_;intro K hK
 refine Zod T Z Z Z Z evf (.cons (T.e 4 Z) .nil) func44 Z Z ?_
 refine Calls.mono (told5_any b.t0 b.t1 _ ⟨by (try dsimp only);omega,by (try dsimp only);omega⟩ ⟨by (try dsimp only);omega,by (try dsimp only);omega⟩ (hT.mem0 M)) ?_
 clear T;rintro e wc ⟨rfl,hb⟩ ac T
 replace M:=M.call hb;clear hb
 have hiu16:=itoa_len (v:=b.t0) ⟨by (try dsimp only);omega,by (try dsimp only);omega⟩
 have hju16:=itoa_len (v:=b.t1) ⟨by (try dsimp only);omega,by (try dsimp only);omega⟩
 refine Zso hK _ _ (M.mask [true] Z) ?_;clear hK K
 refine Zgq T 5 12735 Z (fun _=>(rn_sadd Z (T.e 7 Z) (T.e 0 Z) (by (try simp only [Zx3,Zx1,Zx2]);omega))) ?_;intro ac T
 refine Zgq T 6 12799 Z (fun _=>(rn_sadd Z (T.e 0 Z) evc (by (try simp only [Zx3,Zx1,Zx2]);omega))) ?_;intro ac T
 refine gw 9 13311 ?_;intro K hK
 refine Zod T Z Z Z Z evf (.cons (T.e 5 Z) .nil) func44 Z Z ?_
 refine Calls.mono (told5_any b.r0 b.r1 _ ⟨by (try dsimp only);omega,by (try dsimp only);omega⟩ ⟨by (try dsimp only);omega,by (try dsimp only);omega⟩ (hT.mem0 M)) ?_
 clear T;rintro e wc ⟨rfl,hb⟩ ac T
 replace M:=M.call hb;clear hb
 have hiu17:=itoa_len (v:=b.r0) ⟨by (try dsimp only);omega,by (try dsimp only);omega⟩
 have hju17:=itoa_len (v:=b.r1) ⟨by (try dsimp only);omega,by (try dsimp only);omega⟩
 refine Zso hK _ _ (M.mask [true] Z) ?_;clear hK K
 refine Zgq T 10 14335 Z (fun _=>(rn_sadd Z (T.e 1 Z) (T.e 0 Z) (by (try simp only [Zx3,Zx1,Zx2]);omega))) ?_;intro ac T
 refine Zgq T 11 16383 Z (fun _=>(rn_sadd Z (T.e 0 Z) evc (by (try simp only [Zx3,Zx1,Zx2]);omega))) ?_;intro ac T
 refine gw 14 32767 ?_;intro K hK
 refine Zod T Z Z Z Z evf (.cons (T.e 6 Z) .nil) func43 Z Z ?_
 refine Calls.mono (Itoa_any b.me _ (by (try dsimp only);omega) (hT.mem0 M)) ?_
 clear T;rintro e wc ⟨rfl,hb⟩ ac T
 replace M:=M.call hb;clear hb
 have hiu18:=itoa_len (v:=b.me) ⟨by (try dsimp only);omega,by (try dsimp only);omega⟩
 refine Zso hK _ _ (M.mask [true] Z) ?_;clear hK K
 refine Zgq T 15 65535 Z (fun _=>(rn_sadd Z (T.e 1 Z) (T.e 0 Z) (by (try simp only [Zx3,Zx1,Zx2]);omega))) ?_;intro ac T
 refine Zgq T 16 131071 Z (fun _=>(rn_sadd Z (T.e 0 Z) evc (by (try simp only [Zx3,Zx1,Zx2]);omega))) ?_;intro ac T
 refine Zgq T 17 262143 Z (fun _=>(Zra Z (T.e 0 Z))) ?_;intro ac T
 refine Zgq T 18 524287 Z (fun _=>(Zra Z evc)) ?_;intro ac T
 refine Zgd (by kernel_rfl) ?_
 replace T:=T.pick [0,1] rfl
 replace M:=M.mask [false] rfl
 refine Znr ?_
 refine rt_2 T Z (T.e 1 Z) (T.e 0 Z) ?_
 have e9:((((((((((((((((((pre8++(b.highs.take k).flatMap (sndT highW))++([102,105,108,101,44]))++(Lib.itoa b.u0++[46,46]++Lib.itoa b.u1))++([44]))++(Lib.itoa b.d0++[46,46]++Lib.itoa b.d1))++([44]))++(Lib.itoa b.a0++[46,46]++Lib.itoa b.a1))++([44]))++(Lib.itoa b.b0++[46,46]++Lib.itoa b.b1))++([44]))++(Lib.itoa b.le))++([44]))++(Lib.itoa b.t0++[46,46]++Lib.itoa b.t1))++([44]))++(Lib.itoa b.r0++[46,46]++Lib.itoa b.r1))++([44]))++(Lib.itoa b.me))++([10]))=wrV b:=by unfold wrV;rw [if_pos (show checkB b=0 by omega),ekpre8,hpre8,ekpre9,hpre9];simp [writeV,lawW,fileV,rgV,nmV]
 have e8:checkB b=0:=by omega
 rw [e9,e8]
 exact ⟨rfl,M.below⟩
theorem num_isSome {s:List UInt8} {n:Int} {ev:Value} (hok:nilB ev=true→Lib.atoiAll s=.ok n) (hno:nilB ev=false→∀ v,Lib.atoiAll s≠.ok v):(nilB ev && decide ((trim45 s).length≤3) && decide (Lib.itoa n=s))=(numP s).isSome:=by
 unfold numP
 cases h:nilB ev with
 | false =>
  split
  ·rename_i v hv;exact absurd hv (hno h v)
  ·rfl
 | true =>
  rw [hok h]
  dsimp only
  by_cases h1:(trim45 s).length≤3 <;> by_cases h2:Lib.itoa n=s <;> simp [h1,h2]
theorem num_val {s:List UInt8} {n:Int} {ev:Value} (hok:nilB ev=true→Lib.atoiAll s=.ok n) (hno:nilB ev=false→∀ v,Lib.atoiAll s≠.ok v) {v:Int} (hv:numP s=some v):n=v:=by
 unfold numP at hv
 split at hv
 ·rename_i v' ha
  split at hv
  ·cases hv
   cases h:nilB ev with
   | false=>exact absurd ha (hno h _)
   | true=>rw [hok h] at ha;injection ha
  ·cases hv
 ·cases hv
def NumPost (f:List UInt8→Option Int) (s:List UInt8) (w:World) (e:Ending) (w':World):Prop:=∃ n:Int,e=.returned (.tuple #[Zi n,.bool (f s).isSome])∧(∀ v,f s=some v→n=v)∧Below w.heap.size w w'
theorem number_any (s:List UInt8) (w:World) (hs:s.length≤1000000) (hT:StrW w)  :
   Calls prog 117 #[sv s] w (NumPost numP s w):=by
 refine Zpx noEx func117 Z 26 Z [sv s] Z Z (Mem.init w _) ?_
 intro ac wc T M
 refine Zsr ?_
 refine Zg2 T (Zq (Zra Z evc)) Z (Zc Z) Z ?_;intro ac T
 replace T:=T.pick [2] rfl
 refine Zln ?_
 refine Zsr ?_
 refine lq T (Zrm Z (T.e 0 Z)) ?_;intro ac T
 refine Zl2 ?_
 refine Zod T Z Z Z Z evf (.cons (T.e 0 Z) .nil) func179 Z Z ?_
 refine Calls.mono (Atoi_any s _ (by omega) (hT.mem0 M)) ?_
 clear T;rintro e wc ⟨nu1,evu1,rfl,hb0u1,hevu1,hoku1,hnou1,hb⟩ ac T
 replace M:=M.call hb;clear hb
 refine Zg5 T (Zq (Zrm Z (T.e 0 Z))) Z (Ze 0 Z Z Z) Z (Ze 1 Z Z Z) Z (Za 1 Z Z) Z (Za 1 Z Z) Z ?_;intro ac T
 replace T:=T.pick [0,1,7] rfl
 refine Zln ?_
 refine cut_seq (fun ac wc=>Tm ac 26 [(2,Zi nu1),(3,.bool ((nilB evu1) && ((decide ((((trim45 s).length:Nat):Int)≤3)) && (decide ((Lib.itoa nu1)=s)))))]∧Mem w noEx wc []) ?_ ?_
 ·refine wp_region_lit ?_
  refine Zg4 T (Zq (Zrm Z (T.e 1 Z))) Z (Zm 1 Z Z) Z (fun _ T=>Zq (rn_ifnil Z (T.e 0 Z) hevu1)) Z (Zm 0 Z Z) Z ?_;intro ac T
  rcases Zx9 (nilB evu1) with h1 | h1
  ·refine lw T (Zwy Z Z (T.e 0 Z) h1) (Zrm Z (T.e 6 Z)) ?_;intro ac T
   refine l_w (Zwy Z Z (T.e 1 Z) h1) ?_;intro K hK
   refine Zod T Z Z Z Z evf (.cons (T.e 0 Z) (.cons evc .nil)) func180 Z Z ?_
   refine Calls.mono (TrimPrefix_any s _) ?_
   clear T;rintro e wc ⟨rfl,hb⟩ ac T
   replace M:=M.call hb;clear hb
   refine Zso hK _ _ ?_;clear hK K
   refine Zg4 T (Zw (Zwy Z Z (T.e 2 Z) h1) (rn_slen Z underlying9 (T.e 0 Z))) Z (fun _ T=>Zw (Zwy Z Z (T.e 3 Z) h1) (rn_leq Z (T.e 0 Z) evc)) Z (fun _ T=>Zq (Zr1 Z (T.e 4 Z) h1 (T.e 0 Z))) Z (Zm 0 Z Z) Z ?_;intro ac T
   rcases Zx9 (decide ((((trim45 s).length:Nat):Int)≤3)) with h2 | h2
   ·replace h2:=of_decide_eq_true h2
    refine lw T (Zwy Z Z (T.e 0 Z) (Zdt h2)) (Zrm Z (T.e 11 Z)) ?_;intro ac T
    refine l_w (Zwy Z Z (T.e 1 Z) (Zdt h2)) ?_;intro K hK
    refine Zod T Z Z Z Z evf (.cons (T.e 0 Z) .nil) func43 Z Z ?_
    refine Calls.mono (Itoa_any nu1 _ hb0u1 (hT.mem0 M)) ?_
    clear T;rintro e wc ⟨rfl,hb⟩ ac T
    replace M:=M.call hb;clear hb
    refine Zso hK _ _ ?_;clear hK K
    refine Zg5 T (Zw (Zwy Z Z (T.e 2 Z) (Zdt h2)) (Zrm Z (T.e 14 Z))) Z (fun _ T=>Zw (Zwy Z Z (T.e 3 Z) (Zdt h2)) (rn_seql Z (T.e 1 Z) (T.e 0 Z))) Z (fun _ T=>Zq (Zr1 Z (T.e 4 Z) (Zdt h2) (T.e 0 Z))) Z (Za 14 Z Z) Z (Za 1 Z Z) Z ?_;intro ac T
    refine wpList_nil ?_
    replace T:=T.pick [0,1] rfl
    exact ⟨(T.pick (E':=[(2,Zi nu1),(3,.bool (decide ((Lib.itoa nu1)=s)))]) [1,0] Z).as (by (try rw [show (nilB evu1)=true from h1]);(try rw [show (decide ((((trim45 s).length:Nat):Int)≤3))=true from (Zdt h2)]);(try rfl)),M.mask [] Z⟩
   replace h2:=of_decide_eq_false h2
   refine Zg7 T (Zp (Zwn Z Z (T.e 0 Z) (Zdf h2))) Z (fun _ T=>Zp (Zwn Z Z (T.e 1 Z) (Zdf h2))) Z (fun _ T=>Zp (Zwn Z Z (T.e 2 Z) (Zdf h2))) Z (fun _ T=>Zp (Zwn Z Z (T.e 3 Z) (Zdf h2))) Z (fun _ T=>Zq (Zr0 Z (T.e 4 Z) (Zdf h2) evc)) Z (Za 14 Z Z) Z (Za 1 Z Z) Z ?_;intro ac T
   refine wpList_nil ?_
   replace T:=T.pick [0,1] rfl
   exact ⟨(T.pick (E':=[(2,Zi nu1),(3,.bool false)]) [1,0] Z).as (by (try rw [show (nilB evu1)=true from h1]);(try rw [show (decide ((((trim45 s).length:Nat):Int)≤3))=false from (Zdf h2)]);(try rfl)),M.mask [] Z⟩
  refine Zg8 T (Zp (Zwn Z Z (T.e 0 Z) h1)) Z (fun _ T=>Zp (Zwn Z Z (T.e 1 Z) h1)) Z (fun _ T=>Zp (Zwn Z Z (T.e 2 Z) h1)) Z (fun _ T=>Zp (Zwn Z Z (T.e 3 Z) h1)) Z (fun _ T=>Zq (Zr0 Z (T.e 4 Z) h1 evc)) Z (Zm 0 Z Z) Z (fun _ T=>Zp (Zwn Z Z (T.e 0 Z) Z)) Z (fun _ T=>Zp (Zwn Z Z (T.e 1 Z) Z)) Z ?_;intro ac T
  refine Zg5 T (Zp (Zwn Z Z (T.e 2 Z) Z)) Z (fun _ T=>Zp (Zwn Z Z (T.e 3 Z) Z)) Z (fun _ T=>Zq (Zr0 Z (T.e 4 Z) Z evc)) Z (Za 14 Z Z) Z (Za 1 Z Z) Z ?_;intro ac T
  refine wpList_nil ?_
  replace T:=T.pick [0,1] rfl
  exact ⟨(T.pick (E':=[(2,Zi nu1),(3,.bool false)]) [1,0] Z).as (by (try rw [show (nilB evu1)=false from h1]);(try rfl)),M.mask [] Z⟩
 clear T M
 rintro ac wc ⟨T,M⟩
 refine wp_ret ?_
 refine rt_2 T Z (T.e 0 Z) (T.e 1 Z) ?_
 have e9:((nilB evu1) && ((decide ((((trim45 s).length:Nat):Int)≤3)) && (decide ((Lib.itoa nu1)=s))))=(numP s).isSome:=by rw [← num_isSome hoku1 hnou1,Bool.and_assoc,show decide ((((trim45 s).length:Nat):Int)≤3)=decide ((trim45 s).length≤3) from decide_eq_decide.2 (by omega)]
 exact ⟨nu1,by rw [← e9],fun v hv=>num_val hoku1 hnou1 hv,M.below⟩
theorem spl_fin {c:UInt8}:∀ (s:List UInt8) (f:Nat),f≤s.length→(∀ i,f≤i→i < s.length→s[i]?≠some c)→spl c (s.drop f)=[s.drop f]:=by
 intro s f hf h
 rcases cut_spl c (s.drop f) with ⟨h1,h2,h3⟩ | ⟨a,r,h1,h2,h3,h4⟩
 ·exact h3
 ·have h5:(s.drop f)[a.length]? = some c:=by rw [h2];simp
  rw [List.getElem?_drop] at h5
  exact absurd h5 (h (f+a.length) (by omega) (List.getElem?_eq_some_iff.1 h5).1)
theorem spl_cut {c:UInt8} {s:List UInt8} {f i:Nat} (hi:s[i]? = some c) (hf:f≤i) (h:∀ q,f≤q→q < i→s[q]?≠some c):spl c (s.drop f)=cutS s f i::spl c (s.drop (i+1)):=by
 have hl:=(List.getElem?_eq_some_iff.1 hi).1
 have e:s.drop f=cutS s f i++c::s.drop (i+1):=by
  unfold cutS
  have h1:(s.drop f).drop (i - f)=c::s.drop (i+1):=by
   rw [List.drop_drop,show f+(i - f)=i by omega,List.drop_eq_getElem_cons hl]
   congr 1
   rw [List.getElem?_eq_getElem hl] at hi
   injection hi
  rw [← h1,List.take_append_drop]
 rw [e]
 refine spl_app fun hm=>?_
 obtain ⟨q,hq,hqc⟩:=List.mem_iff_getElem.1 hm
 have hq2:q < i - f:=by
  unfold cutS at hq
  rw [List.length_take,List.length_drop] at hq
  omega
 have h2:(cutS s f i)[q]? = some c:=by rw [List.getElem?_eq_getElem hq,hqc]
 unfold cutS at h2
 rw [List.getElem?_take_of_lt hq2,List.getElem?_drop] at h2
 exact h (f+q) (by omega) (by omega) h2
theorem cutS_end {s:List UInt8} {f:Nat}:cutS s f s.length=s.drop f:=by
 unfold cutS
 exact List.take_of_length_le (by rw [List.length_drop];exact Nat.le_refl _)
def SplPost (l:List (List UInt8)) (w:World) (e:Ending) (w':World):Prop:=∃ (A:Option Addr) (c:Nat) (I:List (Nat×BA)),e=.returned (.slice A l.length c)∧Sl 9 1 (.slice A l.length c) l.length (st l) I∧Mem w noEx w' I
def SpI (c:UInt8) (s:List UInt8) (f i:Nat) (ol:List (List UInt8)):Prop:=(i≤s.length→f≤i∧spl c s=ol++spl c (s.drop f)∧∀ q,f≤q→q < i→s[q]?≠some c)∧(i=s.length+1→ol=spl c s)
theorem SpI.start (c:UInt8) (s:List UInt8):SpI c s 0 0 []:=⟨fun _=>⟨Nat.le_refl _,rfl,fun q _ h=>absurd h (by omega)⟩,fun h=>by omega⟩
theorem SpI.hit {c:UInt8} {s:List UInt8} {f i:Nat} {ol:List (List UInt8)} (H:SpI c s f i ol) (hi:i≤s.length) (hc:i=s.length∨s[i]? = some c):SpI c s (i+1) (i+1) (ol++[cutS s f i]):=by
 obtain ⟨h1,h2,h3⟩:=H.1 hi
 refine ⟨fun hl=>⟨Nat.le_refl _,?_,fun q h4 h5=>absurd h4 (by omega)⟩,fun he=>?_⟩
 ·rcases hc with hc | hc
  ·omega
  ·rw [h2,spl_cut hc h1 h3]
   simp
 ·have hi2:i=s.length:=by omega
  subst hi2
  rw [h2,cutS_end,spl_fin s f h1 h3]
theorem SpI.skip {c:UInt8} {s:List UInt8} {f i:Nat} {ol:List (List UInt8)} (H:SpI c s f i ol) (hi:i < s.length) (hc:s[i]?≠some c):SpI c s f (i+1) ol:=by
 obtain ⟨h1,h2,h3⟩:=H.1 (by omega)
 refine ⟨fun _=>⟨by omega,h2,fun q h4 h5=>?_⟩,fun he=>by omega⟩
 rcases Nat.lt_or_ge q i with h6 | h6
 ·exact h3 q h4 h6
 ·rw [show q=i by omega]
  exact hc
theorem byte_at {s:List UInt8} {i:Nat} {b c:UInt8} (h:s[i]? = some b) (e:((b.toNat:Nat):Int)=((c.toNat:Nat):Int)):s[i]? = some c:=by
 rw [h,UInt8.toNat_inj.1 (Int.ofNat.inj e)]
theorem byte_no {s:List UInt8} {i:Nat} {b c:UInt8} (h:s[i]? = some b) (e : ¬ ((b.toNat:Nat):Int)=((c.toNat:Nat):Int)):s[i]?≠some c:=by
 rw [h]
 intro h2
 injection h2 with h2
 exact e (by rw [h2])
theorem byte_or {s:List UInt8} {i:Nat} {b c:UInt8} (h:i < s.length→s[i]? = some b) (hi:i≤s.length) (e:(decide ((i:Int)=((s.length:Nat):Int)) || decide (((b.toNat:Nat):Int)=((c.toNat:Nat):Int)))=true):i=s.length∨s[i]? = some c:=by
 rw [Bool.or_eq_true,decide_eq_true_eq,decide_eq_true_eq] at e
 rcases e with e | e
 ·exact .inl (by omega)
 ·rcases Nat.lt_or_ge i s.length with h1 | h1
  ·exact .inr (byte_at (h h1) e)
  ·exact .inl (by omega)
theorem byte_nor {s:List UInt8} {i:Nat} {b c:UInt8} (h:i < s.length→s[i]? = some b) (hi:i≤s.length) (e:(decide ((i:Int)=((s.length:Nat):Int)) || decide (((b.toNat:Nat):Int)=((c.toNat:Nat):Int)))=false):i < s.length∧s[i]?≠some c:=by
 rw [Bool.or_eq_false_iff,decide_eq_false_iff_not,decide_eq_false_iff_not] at e
 have h1:i < s.length:=by have:=e.1;omega
 exact ⟨h1,byte_no (h h1) e.2⟩
theorem Tryz.info9:(prog.info? 9).map (fun i=>(i.zero,i.size,i.bytes))=some (some (.string ByteArray.empty),1,16):=by kernel_rfl
theorem rsplit_any (s:List UInt8) (c:UInt8) (w:World) (hs:s.length≤900000) :
   Calls prog 50 #[sv s,.int .u8 ((c.toNat:Nat):Int)] w (SplPost (spl c s) w):=by
 refine Zpx noEx func50 Z 35 Z [sv s,.int .u8 ((c.toNat:Nat):Int)] Z Z (Mem.init w _) ?_
 intro ac wc T M
 refine Zsr ?_
 refine lq T (Zra Z evc) ?_;intro ac T
 replace T:=T.pick [1,2] rfl
 refine Zln ?_
 refine Zsr ?_
 refine lq T (Zra Z evc) ?_;intro ac T
 refine Zln ?_
 refine Zsr ?_
 refine lq T (Zra Z evc) ?_;intro ac T
 refine Zln ?_
 refine wp_seq ?_
 refine Zsr ?_
 refine lq T (Zra Z evc) ?_;intro ac T
 refine Zln ?_
 refine wp_block ?_
 refine wp_loop_n (fun mz ac wc=>∃ (i f:Nat) (ol:List (List UInt8)) (At:Option Addr) (ct:Nat) (It:List (Nat×BA)),mz=s.length+1 - i∧(i≤s.length+1)∧(SpI c s f i ol)∧(Sl 9 1 (.slice At ol.length ct) ol.length (st ol) It)∧(ol.length≤i)∧Tm ac 35 [(0,sv s),(1,.int .u8 ((c.toNat:Nat):Int)),(5,.slice At ol.length ct),(6,Zi (f:Int)),(7,Zi (i:Int))]∧Mem w noEx wc (It)) ?_ ?_
 ·exact ⟨_,0,0,[],none,0,[],Z,(Nat.zero_le _),(SpI.start c s),(Sl.nil _ _),(Nat.zero_le _),T.pick [3,4,2,1,0] Z,M.mask [] Z⟩
 clear T M
 rintro mz ac wc ⟨i,f,ol,At,ct,It,hmm1,hi,H,hsl,hol,T,M⟩
 refine wp_seq ?_
 refine Zsr ?_
 refine Zg4 T (Zq (Zrm Z (T.e 4 Z))) Z (Zm 1 Z Z) Z (fun _ T=>Zq (rn_slen Z underlying9 (T.e 0 Z))) Z (fun _ T=>Zq (rn_leq Z (T.e 2 Z) (T.e 0 Z))) Z ?_;intro ac T
 replace T:=T.pick [0,4,5,6,7,8] rfl
 refine Zln ?_
 refine wp_if (T.e 0 Z) ?_ ?_
 ·intro h1
  have hfi:=(H.1 (by omega)).1
  obtain ⟨b,hkb⟩:∃ b:UInt8,i < s.length→s[i]? = some b:=by
    by_cases hq:i < s.length
    · exact ⟨_,fun _=>List.getElem?_eq_getElem hq⟩
    · exact ⟨0,fun h=>absurd h hq⟩
  refine Zsk ?_
  refine wp_seq ?_
  refine wp_block ?_
  refine cut_seq (fun ac wc=>Tm ac 35 [(0,sv s),(1,.int .u8 ((c.toNat:Nat):Int)),(5,.slice At ol.length ct),(6,Zi (f:Int)),(7,Zi (i:Int)),(24,.bool ((decide ((i:Int)=((s.length:Nat):Int))) || (decide (((b.toNat:Nat):Int)=((c.toNat:Nat):Int)))))]∧Mem w noEx wc (It)) ?_ ?_
  ·refine wp_region_lit ?_
   refine Zg5 T (Zq (Zrm Z (T.e 5 Z))) Z (Zm 2 Z Z) Z (fun _ T=>Zq (rn_slen Z underlying9 (T.e 0 Z))) Z (fun _ T=>Zq (rn_eql Z (T.e 2 Z) (T.e 0 Z))) Z (Zm 0 Z Z) Z ?_;intro ac T
   rcases Zx9 (decide ((i:Int)=((s.length:Nat):Int))) with h2 | h2
   ·replace h2:=of_decide_eq_true h2
    refine Zg6 T (Zp (Zwn Z Z (T.e 0 Z) (Zdt h2))) Z (fun _ T=>Zp (Zwn Z Z (T.e 1 Z) (Zdt h2))) Z (fun _ T=>Zp (Zwn Z Z (T.e 2 Z) (Zdt h2))) Z (fun _ T=>Zp (Zwn Z Z (T.e 3 Z) (Zdt h2))) Z (fun _ T=>Zp (Zwn Z Z (T.e 4 Z) (Zdt h2))) Z (fun _ T=>Zq (Zr1 Z (T.e 5 Z) (Zdt h2) evc)) Z ?_;intro ac T
    refine wpList_nil ?_
    replace T:=T.pick [0,1,2,3,4,5,12,13,14,15,16] rfl
    exact ⟨(T.pick (E':=[(0,sv s),(1,.int .u8 ((c.toNat:Nat):Int)),(5,.slice At ol.length ct),(6,Zi (f:Int)),(7,Zi (i:Int)),(24,.bool true)]) [6,7,8,9,10,0] Z).as (by (try rw [show (decide ((i:Int)=((s.length:Nat):Int)))=true from (Zdt h2)]);(try rfl)),M.mask [] Z⟩
   replace h2:=of_decide_eq_false h2
   refine Zg6 T (Zw (Zwy Z Z (T.e 0 Z) (Zdf h2)) (Zrm Z (T.e 6 Z))) Z (fun _ T=>Zw (Zwy Z Z (T.e 1 Z) (Zdf h2)) (Zrm Z (T.e 11 Z))) Z (fun _ T=>Zw (Zwy Z Z (T.e 2 Z) (Zdf h2)) (rn_sidx i Z underlying9 (T.e 1 Z) (T.e 0 Z) Z (hkb (by omega)))) Z (fun _ T=>Zw (Zwy Z Z (T.e 3 Z) (Zdf h2)) (Zrm Z (T.e 10 Z))) Z (fun _ T=>Zw (Zwy Z Z (T.e 4 Z) (Zdf h2)) (rn_eql Z (T.e 1 Z) (T.e 0 Z))) Z (fun _ T=>Zq (Zr0 Z (T.e 5 Z) (Zdf h2) (T.e 0 Z))) Z ?_;intro ac T
   refine wpList_nil ?_
   replace T:=T.pick [0,1,2,3,4,5,12,13,14,15,16] rfl
   exact ⟨(T.pick (E':=[(0,sv s),(1,.int .u8 ((c.toNat:Nat):Int)),(5,.slice At ol.length ct),(6,Zi (f:Int)),(7,Zi (i:Int)),(24,.bool (decide (((b.toNat:Nat):Int)=((c.toNat:Nat):Int))))]) [6,7,8,9,10,0] Z).as (by (try rw [show (decide ((i:Int)=((s.length:Nat):Int)))=false from (Zdf h2)]);(try rfl)),M.mask [] Z⟩
  clear T M
  rintro ac wc ⟨T,M⟩
  refine wp_cond_split (T.e 5 Z) ?_ ?_
  ·intro h3
   (have h3':=h3;try simp only [Zb1,Zb2,Zb3,Zb4,Zb5,Zb6,Zb7] at h3')
   refine Zsr ?_
   refine Zg5 T (Zq (Zrm Z (T.e 2 Z))) Z (Zm 1 Z Z) Z (Zm 5 Z Z) Z (Zm 7 Z Z) Z (fun _ T=>Zq (rn_sslice (p:=f) (q:=i) Z underlying9 (T.e 2 Z) (T.e 1 Z) (T.e 0 Z) (by omega) (by omega))) Z ?_;intro ac T
   refine Zl2 ?_
   refine ow_bs (e:=9) [sv (cutS s f i)] M T Z Z Z Z (.cons (T.e 0 Z) .nil) (fun _=>by kernel_rfl) ?_;clear M T;intro g1 wc ac M T
   refine Zl2 ?_
   refine ow_app ([(g1,.cells [sv (cutS s f i)])]) Tryz.info9 hsl M (by first | rfl | simp) T Z Z Z Z underlying37 Z Z Z (by omega) (T.e 5 Z) (T.e 0 Z) (Zne (i:=0) Z) Z Z ?_;clear M T;intro ga1 cga1 wc ac M T
   refine l_q (v:=(.slice (some ⟨ga1,0,none⟩) (ol.length+1) cga1)) (T.pick [0,1,2,3,4,5,6,7,8,10,11,12] Z) Z Z Z Z (Zra Z (T.e 0 Z)) ?_;intro ac T
   refine wpList_nil ?_
   replace T:=T.pick [0,8,9,11] rfl
   replace M:=M.mask [true,false] rfl
   refine nm_then ?_
   refine wp_region_lit ?_
   refine Zg3 T (Zq (Zrm Z (T.e 3 Z))) Z (fun _ T=>Zq (rn_add Z (T.e 0 Z) evc (by omega))) Z (Za 0 Z Z) Z ?_;intro ac T
   refine wpList_nil ?_
   replace T:=T.pick [0,3,4,5,6] rfl
   refine Znb ?_
   refine nm_then ?_
   refine wp_region_lit ?_
   refine Zg2 T (Zq (Zrm Z (T.e 4 Z))) Z (fun _ T=>Zq (rn_add Z (T.e 0 Z) evc (by omega))) Z ?_;intro ac T
   refine l_q (v:=(Zi ((i:Int)+1))) (T.pick [0,1,2,3,4,5] Z) Z Z Z Z (Zra Z (T.e 0 Z)) ?_;intro ac T
   replace T:=T.pick [0,3,4,5,6] rfl
   refine Zln ?_
   have e9:ol.length+1=(ol++[cutS s f i]).length:=by simp
   have e8:((st ol)++[sv (cutS s f i)])=st (ol++[cutS s f i]):=by rw [← st_snoc]
   rw [e9,e8] at M
   rw [e9] at T
   clear e9 e8
   exact ⟨_,by omega,i+1,i+1,(ol++[cutS s f i]),_,_,[(ga1,.row 9 1 (ol++[cutS s f i]).length (st (ol++[cutS s f i])) cga1)],Z,(by omega),(H.hit (by omega) (byte_or hkb (by omega) (by assumption))),(Sl.row _ _ _ _ _ _),(by simp only [Zx3,Zx1,Zx2];omega),T.pick [3,4,2,1,0] Z,M.perm [0] Z Z⟩
  intro h3
  (have h3':=h3;try simp only [Zb1,Zb2,Zb3,Zb4,Zb5,Zb6,Zb7] at h3')
  refine wp_skip ?_
  refine Znb ?_
  refine nm_then ?_
  refine wp_region_lit ?_
  refine Zg2 T (Zq (Zrm Z (T.e 4 Z))) Z (fun _ T=>Zq (rn_add Z (T.e 0 Z) evc (by omega))) Z ?_;intro ac T
  refine l_q (v:=(Zi ((i:Int)+1))) (T.pick [0,1,2,3,4,5,7] Z) Z Z Z Z (Zra Z (T.e 0 Z)) ?_;intro ac T
  replace T:=T.pick [0,3,4,5,6] rfl
  refine Zln ?_
  exact ⟨_,by omega,i+1,f,ol,_,_,It,Z,(by have:=(byte_nor hkb (by omega) (by assumption)).1;omega),(H.skip (byte_nor hkb (by omega) (by assumption)).1 (byte_nor hkb (by omega) (by assumption)).2),hsl,(by omega),T.pick [1,2,3,4,0] Z,M⟩
 intro h1
 refine wp_exit ?_
 refine Zet ?_
 refine Zet ?_
 refine ex_hit ?_
 refine nm_then ?_
 refine Zsr ?_
 refine Zg2 T (Zq (Zrm Z (T.e 3 Z))) Z (Za 0 Z Z) Z ?_;intro ac T
 replace T:=T.pick [0] rfl
 refine Zln ?_
 refine wp_ret ?_
 refine rt_1 T Z (T.e 0 Z) ?_
 have e9:ol=spl c s:=H.2 (by omega)
 rw [← e9]
 exact ⟨At,ct,It,Z,hsl,M⟩
theorem cut_one (s:List UInt8):cutS s 1 s.length=s.drop 1:=cutS_end
theorem byte_get {s:List UInt8} {i:Nat}:∃ b:UInt8,i < s.length→s[i]? = some b:=by
 by_cases hq:i < s.length
 · exact ⟨_,fun _=>List.getElem?_eq_getElem hq⟩
 · exact ⟨0,fun h=>absurd h hq⟩
theorem head_is {s:List UInt8} {b:UInt8} (h:0 < s.length→s[0]? = some b) (c:UInt8):(decide (0 < ((s.length:Nat):Int)) && decide (((b.toNat:Nat):Int)=((c.toNat:Nat):Int)))=decide (s.head? = some c):=by
 cases s with
 | nil=>simp
 | cons a r =>
  have h1:=h (by simp)
  simp only [List.getElem?_cons_zero,Option.some.injEq] at h1
  subst h1
  have e:(((a.toNat:Nat):Int)=((c.toNat:Nat):Int))↔a=c:=⟨fun h=>UInt8.toNat_inj.1 (Int.ofNat.inj h),fun h=>by rw [h]⟩
  simp [e]
theorem numR_pos {s:List UInt8} (h:s.head? = some 45):numR s=(magR true (cutS s 1 s.length)).map fun n:Nat=>-(n:Int):=by unfold numR;rw [if_pos h,cut_one]
theorem numR_neg {s:List UInt8} (h:s.head?≠some 45):numR s=(magR false s).map fun n:Nat=>(n:Int):=by unfold numR;rw [if_neg h]
theorem digR_step {n:Nat} {w:List UInt8} {k:Nat} {b:UInt8} (h:w[k]? = some b):digR n (w.drop k)=if b.toNat < 48∨57 < b.toNat then none else digR (10 * n+(b.toNat - 48)) (w.drop (k+1)):=by
 rw [List.drop_eq_getElem_cons (List.getElem?_eq_some_iff.1 h).1,(List.getElem?_eq_some_iff.1 h).2]
 rfl
theorem hd_iff {w:List UInt8} {d:UInt8} (h:0 < w.length→w[0]? = some d):w.head? = some 48↔0 < w.length∧((d.toNat:Nat):Int)=48:=by
 cases w with
 | nil=>simp
 | cons a r =>
  have h1:=h (by simp)
  simp only [List.getElem?_cons_zero,Option.some.injEq] at h1
  subst h1
  have e:(((a.toNat:Nat):Int)=48)↔a=48:=⟨fun h=>UInt8.toNat_inj.1 (Int.ofNat.inj h),fun h=>by rw [h];rfl⟩
  simp [e]
theorem magT_bad {w:List UInt8} {d:UInt8} (h:0 < w.length→w[0]? = some d) (e:(decide (((w.length:Nat):Int) < 1) || (decide (3 < ((w.length:Nat):Int)) || decide (((d.toNat:Nat):Int)=48)))=true):magR true w=none:=by
 unfold magR
 rw [if_pos]
 simp only [Bool.or_eq_true,decide_eq_true_eq] at e
 rcases Nat.lt_or_ge 0 w.length with h0 | h0
 ·rcases e with e | e | e
  ·exact .inl (by omega)
  ·exact .inr (.inl (by omega))
  ·exact .inr (.inr ⟨(hd_iff h).2 ⟨h0,e⟩,.inr Z⟩)
 ·exact .inl (by omega)
theorem magT_ok {w:List UInt8} {d:UInt8} (h:0 < w.length→w[0]? = some d) (e:(decide (((w.length:Nat):Int) < 1) || (decide (3 < ((w.length:Nat):Int)) || decide (((d.toNat:Nat):Int)=48)))=false):magR true w=digR 0 w∧1≤w.length∧w.length≤3:=by
 simp only [Bool.or_eq_false_iff,decide_eq_false_iff_not] at e
 obtain ⟨e1,e2,e3⟩:=e
 refine ⟨?_,by omega,by omega⟩
 unfold magR
 rw [if_neg]
 rintro (h1 | h1 | h1)
 · omega
 · omega
 · exact e3 ((hd_iff h).1 h1.1).2
theorem magF_bad {w:List UInt8} {d:UInt8} (h:0 < w.length→w[0]? = some d) (e:(decide (((w.length:Nat):Int) < 1) || (decide (3 < ((w.length:Nat):Int)) || (decide (((d.toNat:Nat):Int)=48) && decide (1 < ((w.length:Nat):Int)))))=true):magR false w=none:=by
 unfold magR
 rw [if_pos]
 simp only [Bool.or_eq_true,Bool.and_eq_true,decide_eq_true_eq] at e
 rcases Nat.lt_or_ge 0 w.length with h0 | h0
 ·rcases e with e | e | e
  ·exact .inl (by omega)
  ·exact .inr (.inl (by omega))
  ·exact .inr (.inr ⟨(hd_iff h).2 ⟨h0,e.1⟩,.inl (by omega)⟩)
 ·exact .inl (by omega)
theorem magF_ok {w:List UInt8} {d:UInt8} (h:0 < w.length→w[0]? = some d) (e:(decide (((w.length:Nat):Int) < 1) || (decide (3 < ((w.length:Nat):Int)) || (decide (((d.toNat:Nat):Int)=48) && decide (1 < ((w.length:Nat):Int)))))=false):magR false w=digR 0 w∧1≤w.length∧w.length≤3:=by
 simp only [Bool.or_eq_false_iff,Bool.and_eq_false_imp,decide_eq_false_iff_not,decide_eq_true_eq] at e
 obtain ⟨e1,e2,e3⟩:=e
 refine ⟨?_,by omega,by omega⟩
 unfold magR
 rw [if_neg]
 rintro (h1 | h1 | ⟨h1,h2⟩)
 ·omega
 ·omega
 ·rcases h2 with h2 | h2
  ·exact e3 ((hd_iff h).1 h1).2 (by omega)
  ·cases h2
theorem dig_bad {b:UInt8} (e:(decide (((b.toNat:Nat):Int) < 48) || decide (57 < ((b.toNat:Nat):Int)))=true):b.toNat < 48∨57 < b.toNat:=by
 simp only [Bool.or_eq_true,decide_eq_true_eq] at e
 omega
theorem dig_ok {b:UInt8} (e:(decide (((b.toNat:Nat):Int) < 48) || decide (57 < ((b.toNat:Nat):Int)))=false):48≤b.toNat∧b.toNat≤57:=by
 simp only [Bool.or_eq_false_iff,decide_eq_false_iff_not] at e
 omega
theorem NumPost.none {f:List UInt8→Option Int} {s:List UInt8} {w w':World} (h:f s=.none) (hb:Below w.heap.size w w'):NumPost f s w (.returned (.tuple #[Zi 0,.bool false])) w':=⟨0,(by rw [h];rfl),(fun v hv=>by rw [h] at hv;cases hv),hb⟩
theorem NumPost.some {f:List UInt8→Option Int} {s:List UInt8} {n:Int} {w w':World} (h:f s=.some n) (hb:Below w.heap.size w w'):NumPost f s w (.returned (.tuple #[Zi n,.bool true])) w':=⟨n,(by rw [h];rfl),(fun v hv=>by rw [h] at hv;injection hv),hb⟩
theorem rnumber_any (s:List UInt8) (w:World) (hs:s.length≤1000000) :
   Calls prog 119 #[sv s] w (NumPost numR s w):=by
 obtain ⟨b0,hk0⟩:=byte_get (s:=s) (i:=0)
 obtain ⟨d0,hkd⟩:=byte_get (s:=cutS s 1 s.length) (i:=0)
 have hb0:(decide (0 < ((s.length:Nat):Int)) && decide (((b0.toNat:Nat):Int)=45))=decide (s.head? = some 45):=head_is hk0 45
 refine Zpx noEx func119 Z 66 Z [sv s] Z Z (Mem.init w _) ?_
 intro ac wc T M
 refine Zsr ?_
 refine Zg2 T (Zq (Zra Z evc)) Z (Zc Z) Z ?_;intro ac T
 replace T:=T.pick [2] rfl
 refine Zln ?_
 refine Zsr ?_
 refine lq T (Zra Z evc) ?_;intro ac T
 refine Zln ?_
 refine wp_seq ?_
 refine cut_seq (fun ac wc=>Tm ac 66 [(0,sv s),(4,Zi 1),(14,.bool ((decide (0 < ((s.length:Nat):Int))) && (decide (((b0.toNat:Nat):Int)=45))))]∧Mem w noEx wc []) ?_ ?_
 ·refine wp_region_lit ?_
  refine Zg4 T (Zq (Zrm Z (T.e 1 Z))) Z (fun _ T=>Zq (rn_slen Z underlying9 (T.e 0 Z))) Z (fun _ T=>Zq (rn_gtr Z (T.e 0 Z) evc)) Z (Zm 0 Z Z) Z ?_;intro ac T
  rcases Zx9 (decide (0 < ((s.length:Nat):Int))) with h1 | h1
  ·replace h1:=of_decide_eq_true h1
   refine Zg4 T (Zw (Zwy Z Z (T.e 0 Z) (Zdt h1)) (Zrm Z (T.e 5 Z))) Z (fun _ T=>Zw (Zwy Z Z (T.e 1 Z) (Zdt h1)) (rn_sidx 0 Z underlying9 (T.e 0 Z) evc Z (hk0 (by omega)))) Z (fun _ T=>Zw (Zwy Z Z (T.e 2 Z) (Zdt h1)) (rn_eql Z (T.e 0 Z) evc)) Z (fun _ T=>Zq (Zr1 Z (T.e 3 Z) (Zdt h1) (T.e 0 Z))) Z ?_;intro ac T
   refine wpList_nil ?_
   replace T:=T.pick [0,8,9] rfl
   exact ⟨(T.pick (E':=[(0,sv s),(4,Zi 1),(14,.bool (decide (((b0.toNat:Nat):Int)=45)))]) [2,1,0] Z).as (by (try rw [show (decide (0 < ((s.length:Nat):Int)))=true from (Zdt h1)]);(try rfl)),M.mask [] Z⟩
  replace h1:=of_decide_eq_false h1
  refine Zg4 T (Zp (Zwn Z Z (T.e 0 Z) (Zdf h1))) Z (fun _ T=>Zp (Zwn Z Z (T.e 1 Z) (Zdf h1))) Z (fun _ T=>Zp (Zwn Z Z (T.e 2 Z) (Zdf h1))) Z (fun _ T=>Zq (Zr0 Z (T.e 3 Z) (Zdf h1) evc)) Z ?_;intro ac T
  refine wpList_nil ?_
  replace T:=T.pick [0,8,9] rfl
  exact ⟨(T.pick (E':=[(0,sv s),(4,Zi 1),(14,.bool false)]) [2,1,0] Z).as (by (try rw [show (decide (0 < ((s.length:Nat):Int)))=false from (Zdf h1)]);(try rfl)),M.mask [] Z⟩
 clear T M
 rintro ac wc ⟨T,M⟩
 refine wp_cond_split (T.e 2 Z) ?_ ?_
 ·intro h2
  (have h2':=h2;try simp only [Zb1,Zb2,Zb3,Zb4,Zb5,Zb6,Zb7] at h2')
  refine Zgs M (M.mask [] Z) 4 (by kernel_rfl) Z (by kernel_rfl) ?_
  clear M;intro wc M
  refine Zgq T 0 1 Z (fun _=>(Zrm Z (T.e 0 Z))) ?_;intro ac T
  refine Zgq T 1 3 Z (fun _=>(rn_sslice (p:=1) (q:=s.length) Z underlying9 (T.e 0 Z) evc Z (by omega) (by omega))) ?_;intro ac T
  refine g_q (v:=(Zi (-1))) (T:=T.pick [0,1,2,4] Z) (i:=2) Z (by kernel_rfl) (by kernel_rfl:(Zpb 4 3).setIfInBounds 2 true=Zpb 4 7) si_U (fun _ _ _ h=>h) Z Z Z Z (fun _ _ _ _ _=>(Zra Z evc)) ?_;intro ac T
  refine g_q (v:=(sv (cutS s 1 s.length))) (T:=T.pick [0,1,2,4] Z) (i:=3) Z (by kernel_rfl) (by kernel_rfl:(Zpb 4 7).setIfInBounds 3 true=Zpb 4 15) si_U (fun _ _ _ h=>h) Z Z Z Z (fun _ _ _ _ _=>(Zra Z (T.e 1 Z))) ?_;intro ac T
  refine Zgd (by kernel_rfl) ?_
  replace T:=T.pick [0,1] rfl
  refine Zns ?_
  refine cut_seq (fun ac wc=>Tm ac 66 [(0,sv (cutS s 1 s.length)),(4,Zi (-1)),(38,.bool ((decide ((((cutS s 1 s.length).length:Nat):Int) < 1)) || ((decide (3 < (((cutS s 1 s.length).length:Nat):Int))) || (decide (((d0.toNat:Nat):Int)=48)))))]∧Mem w noEx wc []) ?_ ?_
  ·refine wp_region_lit ?_
   refine Zg4 T (Zq (Zrm Z (T.e 0 Z))) Z (fun _ T=>Zq (rn_slen Z underlying9 (T.e 0 Z))) Z (fun _ T=>Zq (rn_lss Z (T.e 0 Z) evc)) Z (Zm 0 Z Z) Z ?_;intro ac T
   rcases Zx9 (decide ((((cutS s 1 s.length).length:Nat):Int) < 1)) with h3 | h3
   ·replace h3:=of_decide_eq_true h3
    refine Zg8 T (Zp (Zwn Z Z (T.e 0 Z) (Zdt h3))) Z (fun _ T=>Zp (Zwn Z Z (T.e 1 Z) (Zdt h3))) Z (fun _ T=>Zp (Zwn Z Z (T.e 2 Z) (Zdt h3))) Z (fun _ T=>Zq (Zr1 Z (T.e 3 Z) (Zdt h3) evc)) Z (Zm 0 Z Z) Z (fun _ T=>Zp (Zwn Z Z (T.e 0 Z) Z)) Z (fun _ T=>Zp (Zwn Z Z (T.e 1 Z) Z)) Z (fun _ T=>Zp (Zwn Z Z (T.e 2 Z) Z)) Z ?_;intro ac T
    refine Zg8 T (Zp (Zwn Z Z (T.e 3 Z) Z)) Z (fun _ T=>Zp (Zwu Z Z (T.e 0 Z))) Z (fun _ T=>Zp (Zwu Z Z (T.e 1 Z))) Z (fun _ T=>Zp (Zwu Z Z (T.e 2 Z))) Z (fun _ T=>Zp (Zwu Z Z (T.e 3 Z))) Z (fun _ T=>Zp (Zwu Z Z (T.e 0 Z))) Z (fun _ T=>Zp (Zwu Z Z (T.e 1 Z))) Z (fun _ T=>Zp (Zwu Z Z (T.e 6 Z))) Z ?_;intro ac T
    refine Zg2 T (Zp (Zwn Z Z (T.e 11 Z) Z)) Z (fun _ T=>Zq (Zr1 Z (T.e 12 Z) Z evc)) Z ?_;intro ac T
    refine wpList_nil ?_
    replace T:=T.pick [0,22,23] rfl
    exact ⟨(T.pick (E':=[(0,sv (cutS s 1 s.length)),(4,Zi (-1)),(38,.bool true)]) [1,2,0] Z).as (by (try rw [show (decide ((((cutS s 1 s.length).length:Nat):Int) < 1))=true from (Zdt h3)]);(try rfl)),M.mask [] Z⟩
   replace h3:=of_decide_eq_false h3
   refine Zg5 T (Zw (Zwy Z Z (T.e 0 Z) (Zdf h3)) (Zrm Z (T.e 4 Z))) Z (fun _ T=>Zw (Zwy Z Z (T.e 1 Z) (Zdf h3)) (rn_slen Z underlying9 (T.e 0 Z))) Z (fun _ T=>Zw (Zwy Z Z (T.e 2 Z) (Zdf h3)) (rn_gtr Z (T.e 0 Z) evc)) Z (fun _ T=>Zq (Zr0 Z (T.e 3 Z) (Zdf h3) (T.e 0 Z))) Z (Zm 0 Z Z) Z ?_;intro ac T
   rcases Zx9 (decide (3 < (((cutS s 1 s.length).length:Nat):Int))) with h4 | h4
   ·replace h4:=of_decide_eq_true h4
    refine Zg8 T (Zp (Zwn Z Z (T.e 0 Z) (Zdt h4))) Z (fun _ T=>Zp (Zwn Z Z (T.e 1 Z) (Zdt h4))) Z (fun _ T=>Zp (Zwn Z Z (T.e 2 Z) (Zdt h4))) Z (fun _ T=>Zp (Zwn Z Z (T.e 3 Z) (Zdt h4))) Z (fun _ T=>Zp (Zwu Z Z (T.e 0 Z))) Z (fun _ T=>Zp (Zwu Z Z (T.e 1 Z))) Z (fun _ T=>Zp (Zwu Z Z (T.e 2 Z))) Z (fun _ T=>Zp (Zwu Z Z (T.e 3 Z))) Z ?_;intro ac T
    refine Zg5 T (Zp (Zwu Z Z (T.e 0 Z))) Z (fun _ T=>Zp (Zwu Z Z (T.e 1 Z))) Z (fun _ T=>Zp (Zwu Z Z (T.e 6 Z))) Z (fun _ T=>Zp (Zwn Z Z (T.e 11 Z) (Zdt h4))) Z (fun _ T=>Zq (Zr1 Z (T.e 12 Z) (Zdt h4) evc)) Z ?_;intro ac T
    refine wpList_nil ?_
    replace T:=T.pick [0,22,23] rfl
    exact ⟨(T.pick (E':=[(0,sv (cutS s 1 s.length)),(4,Zi (-1)),(38,.bool true)]) [1,2,0] Z).as (by (try rw [show (decide ((((cutS s 1 s.length).length:Nat):Int) < 1))=false from (Zdf h3)]);(try rw [show (decide (3 < (((cutS s 1 s.length).length:Nat):Int)))=true from (Zdt h4)]);(try rfl)),M.mask [] Z⟩
   replace h4:=of_decide_eq_false h4
   refine Zg4 T (Zw (Zwy Z Z (T.e 0 Z) (Zdf h4)) (Zrm Z (T.e 9 Z))) Z (fun _ T=>Zw (Zwy Z Z (T.e 1 Z) (Zdf h4)) (rn_sidx 0 Z underlying9 (T.e 0 Z) evc Z (hkd (by omega)))) Z (fun _ T=>Zw (Zwy Z Z (T.e 2 Z) (Zdf h4)) (rn_eql Z (T.e 0 Z) evc)) Z (fun _ T=>Zw (Zwy Z Z (T.e 3 Z) (Zdf h4)) (Zrm Z (T.e 0 Z))) Z ?_;intro ac T
   rcases Zx9 (decide (((d0.toNat:Nat):Int)=48)) with h5 | h5
   ·replace h5:=of_decide_eq_true h5
    refine Zg4 T (Zw (Zwy Z Z (T.e 0 Z) (Zdt h5)) (Zrm Z (T.e 13 Z))) Z (fun _ T=>Zw (Zwy Z Z (T.e 1 Z) (Zdt h5)) (rn_slen Z underlying9 (T.e 0 Z))) Z (fun _ T=>Zw (Zwy Z Z (T.e 2 Z) (Zdt h5)) (rn_gtr Z (T.e 0 Z) evc)) Z (fun _ T=>Zw (Zwy Z Z (T.e 3 Z) (Zdt h5)) (Zrm Z (T.e 0 Z))) Z ?_;intro ac T
    rcases Zx9 (decide (1 < (((cutS s 1 s.length).length:Nat):Int))) with h6 | h6
    ·replace h6:=of_decide_eq_true h6
     refine Zg5 T (Zp (Zwn Z Z (T.e 0 Z) (Zdt h6))) Z (fun _ T=>Zp (Zwn Z Z (T.e 1 Z) (Zdt h6))) Z (fun _ T=>Zw (Zwy Z Z (T.e 6 Z) (Zdt h5)) (Zr1 Z (T.e 2 Z) (Zdt h6) evc)) Z (fun _ T=>Zw (Zwy Z Z (T.e 11 Z) (Zdf h4)) (Zr1 Z (T.e 7 Z) (Zdt h5) (T.e 0 Z))) Z (fun _ T=>Zq (Zr0 Z (T.e 12 Z) (Zdf h4) (T.e 0 Z))) Z ?_;intro ac T
     refine wpList_nil ?_
     replace T:=T.pick [0,22,23] rfl
     exact ⟨(T.pick (E':=[(0,sv (cutS s 1 s.length)),(4,Zi (-1)),(38,.bool true)]) [1,2,0] Z).as (by (try rw [show (decide ((((cutS s 1 s.length).length:Nat):Int) < 1))=false from (Zdf h3)]);(try rw [show (decide (3 < (((cutS s 1 s.length).length:Nat):Int)))=false from (Zdf h4)]);(try rw [show (decide (((d0.toNat:Nat):Int)=48))=true from (Zdt h5)]);(try rw [show (decide (1 < (((cutS s 1 s.length).length:Nat):Int)))=true from (Zdt h6)]);(try rfl)),M.mask [] Z⟩
    replace h6:=of_decide_eq_false h6
    refine Zg5 (v2:=(.bool true)) T (Zw (Zwy Z Z (T.e 0 Z) (Zdf h6)) (Zrm Z (T.e 18 Z))) Z (fun _ T=>Zw (Zwy Z Z (T.e 1 Z) (Zdf h6)) (Zrq (rn_lss Z (T.e 0 Z) evc) (by simp))) Z (fun _ T=>Zw (Zwy Z Z (T.e 6 Z) (Zdt h5)) (Zr0 Z (T.e 2 Z) (Zdf h6) (T.e 0 Z))) Z (fun _ T=>Zw (Zwy Z Z (T.e 11 Z) (Zdf h4)) (Zr1 Z (T.e 7 Z) (Zdt h5) (T.e 0 Z))) Z (fun _ T=>Zq (Zr0 Z (T.e 12 Z) (Zdf h4) (T.e 0 Z))) Z ?_;intro ac T
    refine wpList_nil ?_
    replace T:=T.pick [0,22,23] rfl
    exact ⟨(T.pick (E':=[(0,sv (cutS s 1 s.length)),(4,Zi (-1)),(38,.bool true)]) [1,2,0] Z).as (by (try rw [show (decide ((((cutS s 1 s.length).length:Nat):Int) < 1))=false from (Zdf h3)]);(try rw [show (decide (3 < (((cutS s 1 s.length).length:Nat):Int)))=false from (Zdf h4)]);(try rw [show (decide (((d0.toNat:Nat):Int)=48))=true from (Zdt h5)]);(try rw [show (decide (1 < (((cutS s 1 s.length).length:Nat):Int)))=false from (Zdf h6)]);(try rfl)),M.mask [] Z⟩
   replace h5:=of_decide_eq_false h5
   refine Zg8 T (Zp (Zwn Z Z (T.e 0 Z) (Zdf h5))) Z (fun _ T=>Zp (Zwn Z Z (T.e 1 Z) (Zdf h5))) Z (fun _ T=>Zp (Zwn Z Z (T.e 2 Z) (Zdf h5))) Z (fun _ T=>Zp (Zwn Z Z (T.e 3 Z) (Zdf h5))) Z (fun _ T=>Zp (Zwu Z Z (T.e 0 Z))) Z (fun _ T=>Zp (Zwu Z Z (T.e 1 Z))) Z (fun _ T=>Zp (Zwn Z Z (T.e 6 Z) (Zdf h5))) Z (fun _ T=>Zw (Zwy Z Z (T.e 11 Z) (Zdf h4)) (Zr0 Z (T.e 7 Z) (Zdf h5) evc)) Z ?_;intro ac T
   refine lq T (Zr0 Z (T.e 12 Z) (Zdf h4) (T.e 0 Z)) ?_;intro ac T
   refine wpList_nil ?_
   replace T:=T.pick [0,22,23] rfl
   exact ⟨(T.pick (E':=[(0,sv (cutS s 1 s.length)),(4,Zi (-1)),(38,.bool false)]) [1,2,0] Z).as (by (try rw [show (decide ((((cutS s 1 s.length).length:Nat):Int) < 1))=false from (Zdf h3)]);(try rw [show (decide (3 < (((cutS s 1 s.length).length:Nat):Int)))=false from (Zdf h4)]);(try rw [show (decide (((d0.toNat:Nat):Int)=48))=false from (Zdf h5)]);(try rfl)),M.mask [] Z⟩
  clear T M
  rintro ac wc ⟨T,M⟩
  refine wp_cond_split (T.e 2 Z) ?_ ?_
  ·intro h7
   (have h7':=h7;try simp only [Zb1,Zb2,Zb3,Zb4,Zb5,Zb6,Zb7] at h7')
   refine Zsr ?_
   refine Zg2 T (Zq (Zra Z evc)) Z (Zc Z) Z ?_;intro ac T
   replace T:=T.pick [0,1] rfl
   refine Zln ?_
   refine wp_ret ?_
   refine Zrt ?_
   refine rt_2 T Z (T.e 1 Z) (T.e 0 Z) ?_
   have hh:s.head? = some 45:=of_decide_eq_true (hb0.symm.trans (by assumption))
   have hnr:=numR_pos hh
   rw [magT_bad hkd (by assumption)] at hnr
   exact NumPost.none hnr M.below
  intro h7
  (have h7':=h7;try simp only [Zb1,Zb2,Zb3,Zb4,Zb5,Zb6,Zb7] at h7')
  refine Zsk ?_
  refine Zsr ?_
  refine lq T (Zra Z evc) ?_;intro ac T
  replace T:=T.pick [0,1,2] rfl
  refine Zln ?_
  refine wp_seq ?_
  refine Zsr ?_
  refine lq T (Zra Z evc) ?_;intro ac T
  refine Zln ?_
  refine wp_block ?_
  refine wp_loop_n (fun mz ac wc=>∃ (k nn:Nat),mz=(cutS s 1 s.length).length - k∧(k≤(cutS s 1 s.length).length)∧(digR 0 (cutS s 1 s.length)=digR nn ((cutS s 1 s.length).drop k))∧((k=0→nn=0)∧(k=1→nn≤9)∧(k=2→nn≤99)∧(k=3→nn≤999))∧Tm ac 66 [(0,sv (cutS s 1 s.length)),(4,Zi (-1)),(5,Zi (nn:Int)),(6,Zi (k:Int))]∧Mem w noEx wc []) ?_ ?_
  ·exact ⟨_,0,0,Z,(Nat.zero_le _),Z,⟨fun _=>Z,fun _=>by omega,fun _=>by omega,fun _=>by omega⟩,T.pick [2,3,1,0] Z,M.mask [] Z⟩
  clear T M
  rintro mz ac wc ⟨k,nn,hmm1,hk,hd,hn,T,M⟩
  refine wp_seq ?_
  refine Zsr ?_
  refine Zg4 T (Zq (Zrm Z (T.e 3 Z))) Z (Zm 1 Z Z) Z (fun _ T=>Zq (rn_slen Z underlying9 (T.e 0 Z))) Z (fun _ T=>Zq (rn_lss Z (T.e 2 Z) (T.e 0 Z))) Z ?_;intro ac T
  replace T:=T.pick [0,4,5,6,7] rfl
  refine Zln ?_
  refine wp_if (T.e 0 Z) ?_ ?_
  ·intro h8
   obtain ⟨b,hkb⟩:∃ b,(cutS s 1 s.length)[k]? = some b:=⟨_,List.getElem?_eq_getElem (by omega)⟩
   have hb256:=UInt8.toNat_lt b
   rw [digR_step hkb] at hd
   have hgd:=magT_ok hkd (by assumption)
   refine Zsk ?_
   refine wp_seq ?_
   refine wp_block ?_
   refine wp_seq ?_
   refine cut_seq (fun ac wc=>Tm ac 66 [(0,sv (cutS s 1 s.length)),(4,Zi (-1)),(5,Zi (nn:Int)),(6,Zi (k:Int)),(54,.bool ((decide (((b.toNat:Nat):Int) < 48)) || (decide (57 < ((b.toNat:Nat):Int)))))]∧Mem w noEx wc []) ?_ ?_
   ·refine wp_region_lit ?_
    refine Zg5 T (Zq (Zrm Z (T.e 1 Z))) Z (Zm 5 Z Z) Z (fun _ T=>Zq (rn_sidx k Z underlying9 (T.e 1 Z) (T.e 0 Z) Z hkb)) Z (fun _ T=>Zq (rn_lss Z (T.e 0 Z) evc)) Z (Zm 0 Z Z) Z ?_;intro ac T
    rcases Zx9 (decide (((b.toNat:Nat):Int) < 48)) with h9 | h9
    ·replace h9:=of_decide_eq_true h9
     refine Zg5 T (Zp (Zwn Z Z (T.e 0 Z) (Zdt h9))) Z (fun _ T=>Zp (Zwn Z Z (T.e 1 Z) (Zdt h9))) Z (fun _ T=>Zp (Zwn Z Z (T.e 2 Z) (Zdt h9))) Z (fun _ T=>Zp (Zwn Z Z (T.e 3 Z) (Zdt h9))) Z (fun _ T=>Zq (Zr1 Z (T.e 4 Z) (Zdt h9) evc)) Z ?_;intro ac T
     refine wpList_nil ?_
     replace T:=T.pick [0,1,2,3,4,11,12,13,14] rfl
     exact ⟨(T.pick (E':=[(0,sv (cutS s 1 s.length)),(4,Zi (-1)),(5,Zi (nn:Int)),(6,Zi (k:Int)),(54,.bool true)]) [5,6,7,8,0] Z).as (by (try rw [show (decide (((b.toNat:Nat):Int) < 48))=true from (Zdt h9)]);(try rfl)),M.mask [] Z⟩
    replace h9:=of_decide_eq_false h9
    refine Zg5 T (Zw (Zwy Z Z (T.e 0 Z) (Zdf h9)) (Zrm Z (T.e 6 Z))) Z (fun _ T=>Zw (Zwy Z Z (T.e 1 Z) (Zdf h9)) (Zrm Z (T.e 10 Z))) Z (fun _ T=>Zw (Zwy Z Z (T.e 2 Z) (Zdf h9)) (rn_sidx k Z underlying9 (T.e 1 Z) (T.e 0 Z) Z hkb)) Z (fun _ T=>Zw (Zwy Z Z (T.e 3 Z) (Zdf h9)) (rn_gtr Z (T.e 0 Z) evc)) Z (fun _ T=>Zq (Zr0 Z (T.e 4 Z) (Zdf h9) (T.e 0 Z))) Z ?_;intro ac T
    refine wpList_nil ?_
    replace T:=T.pick [0,1,2,3,4,11,12,13,14] rfl
    exact ⟨(T.pick (E':=[(0,sv (cutS s 1 s.length)),(4,Zi (-1)),(5,Zi (nn:Int)),(6,Zi (k:Int)),(54,.bool (decide (57 < ((b.toNat:Nat):Int))))]) [5,6,7,8,0] Z).as (by (try rw [show (decide (((b.toNat:Nat):Int) < 48))=false from (Zdf h9)]);(try rfl)),M.mask [] Z⟩
   clear T M
   rintro ac wc ⟨T,M⟩
   refine wp_cond_split (T.e 4 Z) ?_ ?_
   ·intro h10
    (have h10':=h10;try simp only [Zb1,Zb2,Zb3,Zb4,Zb5,Zb6,Zb7] at h10')
    refine Zsr ?_
    refine Zg2 T (Zq (Zra Z evc)) Z (Zc Z) Z ?_;intro ac T
    replace T:=T.pick [0,1] rfl
    refine Zln ?_
    refine wp_ret ?_
    refine Zrt ?_
    refine Zrb ?_
    refine Zrt ?_
    refine Zrt ?_
    refine Zrb ?_
    refine Zrt ?_
    refine rt_2 T Z (T.e 1 Z) (T.e 0 Z) ?_
    have hh:s.head? = some 45:=of_decide_eq_true (hb0.symm.trans (by assumption))
    have hnr:=numR_pos hh
    rw [hgd.1,hd,if_pos (dig_bad (by assumption))] at hnr
    exact NumPost.none hnr M.below
   intro h10
   (have h10':=h10;try simp only [Zb1,Zb2,Zb3,Zb4,Zb5,Zb6,Zb7] at h10')
   refine Zsk ?_
   refine wp_region_lit ?_
   refine Zg8 T (Zq (Zrm Z (T.e 2 Z))) Z (fun _ T=>Zq (rn_mul Z evc (T.e 0 Z) (by omega))) Z (Zm 2 Z Z) Z (Zm 6 Z Z) Z (fun _ T=>Zq (rn_sidx k Z underlying9 (T.e 1 Z) (T.e 0 Z) Z hkb)) Z (fun _ T=>Zq (rn_sub8 Z (T.e 0 Z) evc (by omega))) Z (fun _ T=>Zq (rn_cvt8 Z underlying5 underlying3 (T.e 0 Z) (by omega))) Z (fun _ T=>Zq (rn_add Z (T.e 5 Z) (T.e 0 Z) (by omega))) Z ?_;intro ac T
   refine l_q (v:=(Zi ((10 * (nn:Int))+(((b.toNat:Nat):Int) - 48)))) (T.pick [0,1,2,3,4,5,6,7,8,9,11,12] Z) Z Z Z Z (Zra Z (T.e 0 Z)) ?_;intro ac T
   refine wpList_nil ?_
   replace T:=T.pick [0,9,10,11] rfl
   refine Znb ?_
   refine nm_then ?_
   refine wp_region_lit ?_
   refine Zg2 T (Zq (Zrm Z (T.e 3 Z))) Z (fun _ T=>Zq (rn_add Z (T.e 0 Z) evc (by omega))) Z ?_;intro ac T
   refine l_q (v:=(Zi ((k:Int)+1))) (T.pick [0,1,2,3,4] Z) Z Z Z Z (Zra Z (T.e 0 Z)) ?_;intro ac T
   replace T:=T.pick [0,3,4,5] rfl
   refine Zln ?_
   have hdg:=dig_ok (b:=b) (by assumption)
   rw [if_neg (by omega)] at hd
   have e9:((10 * (nn:Int))+(((b.toNat:Nat):Int) - 48))=((10 * nn+(b.toNat - 48):Nat):Int):=by omega
   rw [e9] at T
   exact ⟨_,by omega,k+1,(10 * nn+(b.toNat - 48)),Z,(by omega),hd,(by omega),T.pick [2,3,1,0] Z,M.mask [] Z⟩
  intro h8
  refine wp_exit ?_
  refine Zet ?_
  refine Zet ?_
  refine ex_hit ?_
  refine nm_then ?_
  refine Zsr ?_
  refine Zg5 T (Zq (Zrm Z (T.e 2 Z))) Z (Zm 4 Z Z) Z (fun _ T=>Zq (rn_mul Z (T.e 1 Z) (T.e 0 Z) (by omega))) Z (Za 0 Z Z) Z (Zc Z) Z ?_;intro ac T
  replace T:=T.pick [0,1] rfl
  refine Zln ?_
  refine wp_ret ?_
  refine rt_2 T Z (T.e 1 Z) (T.e 0 Z) ?_
  have hh:s.head? = some 45:=of_decide_eq_true (hb0.symm.trans (by assumption))
  have hnr:=numR_pos hh
  have hgd:=magT_ok hkd (by assumption)
  rw [List.drop_of_length_le (by omega)] at hd
  rw [hgd.1,hd] at hnr
  have e9:((-1) * (nn:Int)) = -(nn:Int):=by omega
  rw [e9]
  exact NumPost.some hnr M.below
 intro h2
 (have h2':=h2;try simp only [Zb1,Zb2,Zb3,Zb4,Zb5,Zb6,Zb7] at h2')
 refine Zsk ?_
 refine wp_seq ?_
 refine cut_seq (fun ac wc=>Tm ac 66 [(0,sv s),(4,Zi 1),(38,.bool ((decide (((s.length:Nat):Int) < 1)) || ((decide (3 < ((s.length:Nat):Int))) || ((decide (((b0.toNat:Nat):Int)=48)) && (decide (1 < ((s.length:Nat):Int)))))))]∧Mem w noEx wc []) ?_ ?_
 ·refine wp_region_lit ?_
  refine Zg4 T (Zq (Zrm Z (T.e 0 Z))) Z (fun _ T=>Zq (rn_slen Z underlying9 (T.e 0 Z))) Z (fun _ T=>Zq (rn_lss Z (T.e 0 Z) evc)) Z (Zm 0 Z Z) Z ?_;intro ac T
  rcases Zx9 (decide (((s.length:Nat):Int) < 1)) with h11 | h11
  ·replace h11:=of_decide_eq_true h11
   refine Zg8 T (Zp (Zwn Z Z (T.e 0 Z) (Zdt h11))) Z (fun _ T=>Zp (Zwn Z Z (T.e 1 Z) (Zdt h11))) Z (fun _ T=>Zp (Zwn Z Z (T.e 2 Z) (Zdt h11))) Z (fun _ T=>Zq (Zr1 Z (T.e 3 Z) (Zdt h11) evc)) Z (Zm 0 Z Z) Z (fun _ T=>Zp (Zwn Z Z (T.e 0 Z) Z)) Z (fun _ T=>Zp (Zwn Z Z (T.e 1 Z) Z)) Z (fun _ T=>Zp (Zwn Z Z (T.e 2 Z) Z)) Z ?_;intro ac T
   refine Zg8 T (Zp (Zwn Z Z (T.e 3 Z) Z)) Z (fun _ T=>Zp (Zwu Z Z (T.e 0 Z))) Z (fun _ T=>Zp (Zwu Z Z (T.e 1 Z))) Z (fun _ T=>Zp (Zwu Z Z (T.e 2 Z))) Z (fun _ T=>Zp (Zwu Z Z (T.e 3 Z))) Z (fun _ T=>Zp (Zwu Z Z (T.e 0 Z))) Z (fun _ T=>Zp (Zwu Z Z (T.e 1 Z))) Z (fun _ T=>Zp (Zwu Z Z (T.e 6 Z))) Z ?_;intro ac T
   refine Zg2 T (Zp (Zwn Z Z (T.e 11 Z) Z)) Z (fun _ T=>Zq (Zr1 Z (T.e 12 Z) Z evc)) Z ?_;intro ac T
   refine wpList_nil ?_
   replace T:=T.pick [0,22,23] rfl
   exact ⟨(T.pick (E':=[(0,sv s),(4,Zi 1),(38,.bool true)]) [1,2,0] Z).as (by (try rw [show (decide (((s.length:Nat):Int) < 1))=true from (Zdt h11)]);(try rfl)),M.mask [] Z⟩
  replace h11:=of_decide_eq_false h11
  refine Zg5 T (Zw (Zwy Z Z (T.e 0 Z) (Zdf h11)) (Zrm Z (T.e 4 Z))) Z (fun _ T=>Zw (Zwy Z Z (T.e 1 Z) (Zdf h11)) (rn_slen Z underlying9 (T.e 0 Z))) Z (fun _ T=>Zw (Zwy Z Z (T.e 2 Z) (Zdf h11)) (rn_gtr Z (T.e 0 Z) evc)) Z (fun _ T=>Zq (Zr0 Z (T.e 3 Z) (Zdf h11) (T.e 0 Z))) Z (Zm 0 Z Z) Z ?_;intro ac T
  rcases Zx9 (decide (3 < ((s.length:Nat):Int))) with h12 | h12
  ·replace h12:=of_decide_eq_true h12
   refine Zg8 T (Zp (Zwn Z Z (T.e 0 Z) (Zdt h12))) Z (fun _ T=>Zp (Zwn Z Z (T.e 1 Z) (Zdt h12))) Z (fun _ T=>Zp (Zwn Z Z (T.e 2 Z) (Zdt h12))) Z (fun _ T=>Zp (Zwn Z Z (T.e 3 Z) (Zdt h12))) Z (fun _ T=>Zp (Zwu Z Z (T.e 0 Z))) Z (fun _ T=>Zp (Zwu Z Z (T.e 1 Z))) Z (fun _ T=>Zp (Zwu Z Z (T.e 2 Z))) Z (fun _ T=>Zp (Zwu Z Z (T.e 3 Z))) Z ?_;intro ac T
   refine Zg5 T (Zp (Zwu Z Z (T.e 0 Z))) Z (fun _ T=>Zp (Zwu Z Z (T.e 1 Z))) Z (fun _ T=>Zp (Zwu Z Z (T.e 6 Z))) Z (fun _ T=>Zp (Zwn Z Z (T.e 11 Z) (Zdt h12))) Z (fun _ T=>Zq (Zr1 Z (T.e 12 Z) (Zdt h12) evc)) Z ?_;intro ac T
   refine wpList_nil ?_
   replace T:=T.pick [0,22,23] rfl
   exact ⟨(T.pick (E':=[(0,sv s),(4,Zi 1),(38,.bool true)]) [1,2,0] Z).as (by (try rw [show (decide (((s.length:Nat):Int) < 1))=false from (Zdf h11)]);(try rw [show (decide (3 < ((s.length:Nat):Int)))=true from (Zdt h12)]);(try rfl)),M.mask [] Z⟩
  replace h12:=of_decide_eq_false h12
  refine Zg4 T (Zw (Zwy Z Z (T.e 0 Z) (Zdf h12)) (Zrm Z (T.e 9 Z))) Z (fun _ T=>Zw (Zwy Z Z (T.e 1 Z) (Zdf h12)) (rn_sidx 0 Z underlying9 (T.e 0 Z) evc Z (hk0 (by omega)))) Z (fun _ T=>Zw (Zwy Z Z (T.e 2 Z) (Zdf h12)) (rn_eql Z (T.e 0 Z) evc)) Z (fun _ T=>Zw (Zwy Z Z (T.e 3 Z) (Zdf h12)) (Zrm Z (T.e 0 Z))) Z ?_;intro ac T
  rcases Zx9 (decide (((b0.toNat:Nat):Int)=48)) with h13 | h13
  ·replace h13:=of_decide_eq_true h13
   refine Zg4 T (Zw (Zwy Z Z (T.e 0 Z) (Zdt h13)) (Zrm Z (T.e 13 Z))) Z (fun _ T=>Zw (Zwy Z Z (T.e 1 Z) (Zdt h13)) (rn_slen Z underlying9 (T.e 0 Z))) Z (fun _ T=>Zw (Zwy Z Z (T.e 2 Z) (Zdt h13)) (rn_gtr Z (T.e 0 Z) evc)) Z (fun _ T=>Zw (Zwy Z Z (T.e 3 Z) (Zdt h13)) (Zrm Z (T.e 0 Z))) Z ?_;intro ac T
   rcases Zx9 (decide (1 < ((s.length:Nat):Int))) with h14 | h14
   ·replace h14:=of_decide_eq_true h14
    refine Zg5 T (Zp (Zwn Z Z (T.e 0 Z) (Zdt h14))) Z (fun _ T=>Zp (Zwn Z Z (T.e 1 Z) (Zdt h14))) Z (fun _ T=>Zw (Zwy Z Z (T.e 6 Z) (Zdt h13)) (Zr1 Z (T.e 2 Z) (Zdt h14) evc)) Z (fun _ T=>Zw (Zwy Z Z (T.e 11 Z) (Zdf h12)) (Zr1 Z (T.e 7 Z) (Zdt h13) (T.e 0 Z))) Z (fun _ T=>Zq (Zr0 Z (T.e 12 Z) (Zdf h12) (T.e 0 Z))) Z ?_;intro ac T
    refine wpList_nil ?_
    replace T:=T.pick [0,22,23] rfl
    exact ⟨(T.pick (E':=[(0,sv s),(4,Zi 1),(38,.bool true)]) [1,2,0] Z).as (by (try rw [show (decide (((s.length:Nat):Int) < 1))=false from (Zdf h11)]);(try rw [show (decide (3 < ((s.length:Nat):Int)))=false from (Zdf h12)]);(try rw [show (decide (((b0.toNat:Nat):Int)=48))=true from (Zdt h13)]);(try rw [show (decide (1 < ((s.length:Nat):Int)))=true from (Zdt h14)]);(try rfl)),M.mask [] Z⟩
   replace h14:=of_decide_eq_false h14
   refine Zg5 (v2:=(.bool false)) T (Zw (Zwy Z Z (T.e 0 Z) (Zdf h14)) (Zrm Z (T.e 18 Z))) Z (fun _ T=>Zw (Zwy Z Z (T.e 1 Z) (Zdf h14)) (Zrq (rn_lss Z (T.e 0 Z) evc) (by simp))) Z (fun _ T=>Zw (Zwy Z Z (T.e 6 Z) (Zdt h13)) (Zr0 Z (T.e 2 Z) (Zdf h14) (T.e 0 Z))) Z (fun _ T=>Zw (Zwy Z Z (T.e 11 Z) (Zdf h12)) (Zr1 Z (T.e 7 Z) (Zdt h13) (T.e 0 Z))) Z (fun _ T=>Zq (Zr0 Z (T.e 12 Z) (Zdf h12) (T.e 0 Z))) Z ?_;intro ac T
   refine wpList_nil ?_
   replace T:=T.pick [0,22,23] rfl
   exact ⟨(T.pick (E':=[(0,sv s),(4,Zi 1),(38,.bool false)]) [1,2,0] Z).as (by (try rw [show (decide (((s.length:Nat):Int) < 1))=false from (Zdf h11)]);(try rw [show (decide (3 < ((s.length:Nat):Int)))=false from (Zdf h12)]);(try rw [show (decide (((b0.toNat:Nat):Int)=48))=true from (Zdt h13)]);(try rw [show (decide (1 < ((s.length:Nat):Int)))=false from (Zdf h14)]);(try rfl)),M.mask [] Z⟩
  replace h13:=of_decide_eq_false h13
  refine Zg8 T (Zp (Zwn Z Z (T.e 0 Z) (Zdf h13))) Z (fun _ T=>Zp (Zwn Z Z (T.e 1 Z) (Zdf h13))) Z (fun _ T=>Zp (Zwn Z Z (T.e 2 Z) (Zdf h13))) Z (fun _ T=>Zp (Zwn Z Z (T.e 3 Z) (Zdf h13))) Z (fun _ T=>Zp (Zwu Z Z (T.e 0 Z))) Z (fun _ T=>Zp (Zwu Z Z (T.e 1 Z))) Z (fun _ T=>Zp (Zwn Z Z (T.e 6 Z) (Zdf h13))) Z (fun _ T=>Zw (Zwy Z Z (T.e 11 Z) (Zdf h12)) (Zr0 Z (T.e 7 Z) (Zdf h13) evc)) Z ?_;intro ac T
  refine lq T (Zr0 Z (T.e 12 Z) (Zdf h12) (T.e 0 Z)) ?_;intro ac T
  refine wpList_nil ?_
  replace T:=T.pick [0,22,23] rfl
  exact ⟨(T.pick (E':=[(0,sv s),(4,Zi 1),(38,.bool false)]) [1,2,0] Z).as (by (try rw [show (decide (((s.length:Nat):Int) < 1))=false from (Zdf h11)]);(try rw [show (decide (3 < ((s.length:Nat):Int)))=false from (Zdf h12)]);(try rw [show (decide (((b0.toNat:Nat):Int)=48))=false from (Zdf h13)]);(try rfl)),M.mask [] Z⟩
 clear T M
 rintro ac wc ⟨T,M⟩
 refine wp_cond_split (T.e 2 Z) ?_ ?_
 ·intro h15
  (have h15':=h15;try simp only [Zb1,Zb2,Zb3,Zb4,Zb5,Zb6,Zb7] at h15')
  refine Zsr ?_
  refine Zg2 T (Zq (Zra Z evc)) Z (Zc Z) Z ?_;intro ac T
  replace T:=T.pick [0,1] rfl
  refine Zln ?_
  refine wp_ret ?_
  refine Zrt ?_
  refine rt_2 T Z (T.e 1 Z) (T.e 0 Z) ?_
  have hh:s.head?≠some 45:=of_decide_eq_false (hb0.symm.trans (by assumption))
  have hnr:=numR_neg hh
  rw [magF_bad hk0 (by assumption)] at hnr
  exact NumPost.none hnr M.below
 intro h15
 (have h15':=h15;try simp only [Zb1,Zb2,Zb3,Zb4,Zb5,Zb6,Zb7] at h15')
 refine Zsk ?_
 refine Zsr ?_
 refine lq T (Zra Z evc) ?_;intro ac T
 replace T:=T.pick [0,1,2] rfl
 refine Zln ?_
 refine wp_seq ?_
 refine Zsr ?_
 refine lq T (Zra Z evc) ?_;intro ac T
 refine Zln ?_
 refine wp_block ?_
 refine wp_loop_n (fun mz ac wc=>∃ (k nn:Nat),mz=s.length - k∧(k≤s.length)∧(digR 0 s=digR nn (s.drop k))∧((k=0→nn=0)∧(k=1→nn≤9)∧(k=2→nn≤99)∧(k=3→nn≤999))∧Tm ac 66 [(0,sv s),(4,Zi 1),(5,Zi (nn:Int)),(6,Zi (k:Int))]∧Mem w noEx wc []) ?_ ?_
 ·exact ⟨_,0,0,Z,(Nat.zero_le _),Z,⟨fun _=>Z,fun _=>by omega,fun _=>by omega,fun _=>by omega⟩,T.pick [2,3,1,0] Z,M.mask [] Z⟩
 clear T M
 rintro mz ac wc ⟨k,nn,hmm1,hk,hd,hn,T,M⟩
 refine wp_seq ?_
 refine Zsr ?_
 refine Zg4 T (Zq (Zrm Z (T.e 3 Z))) Z (Zm 1 Z Z) Z (fun _ T=>Zq (rn_slen Z underlying9 (T.e 0 Z))) Z (fun _ T=>Zq (rn_lss Z (T.e 2 Z) (T.e 0 Z))) Z ?_;intro ac T
 replace T:=T.pick [0,4,5,6,7] rfl
 refine Zln ?_
 refine wp_if (T.e 0 Z) ?_ ?_
 ·intro h16
  obtain ⟨b,hkb⟩:∃ b,s[k]? = some b:=⟨_,List.getElem?_eq_getElem (by omega)⟩
  have hb256:=UInt8.toNat_lt b
  rw [digR_step hkb] at hd
  have hgd:=magF_ok hk0 (by assumption)
  refine Zsk ?_
  refine wp_seq ?_
  refine wp_block ?_
  refine wp_seq ?_
  refine cut_seq (fun ac wc=>Tm ac 66 [(0,sv s),(4,Zi 1),(5,Zi (nn:Int)),(6,Zi (k:Int)),(54,.bool ((decide (((b.toNat:Nat):Int) < 48)) || (decide (57 < ((b.toNat:Nat):Int)))))]∧Mem w noEx wc []) ?_ ?_
  ·refine wp_region_lit ?_
   refine Zg5 T (Zq (Zrm Z (T.e 1 Z))) Z (Zm 5 Z Z) Z (fun _ T=>Zq (rn_sidx k Z underlying9 (T.e 1 Z) (T.e 0 Z) Z hkb)) Z (fun _ T=>Zq (rn_lss Z (T.e 0 Z) evc)) Z (Zm 0 Z Z) Z ?_;intro ac T
   rcases Zx9 (decide (((b.toNat:Nat):Int) < 48)) with h17 | h17
   ·replace h17:=of_decide_eq_true h17
    refine Zg5 T (Zp (Zwn Z Z (T.e 0 Z) (Zdt h17))) Z (fun _ T=>Zp (Zwn Z Z (T.e 1 Z) (Zdt h17))) Z (fun _ T=>Zp (Zwn Z Z (T.e 2 Z) (Zdt h17))) Z (fun _ T=>Zp (Zwn Z Z (T.e 3 Z) (Zdt h17))) Z (fun _ T=>Zq (Zr1 Z (T.e 4 Z) (Zdt h17) evc)) Z ?_;intro ac T
    refine wpList_nil ?_
    replace T:=T.pick [0,1,2,3,4,11,12,13,14] rfl
    exact ⟨(T.pick (E':=[(0,sv s),(4,Zi 1),(5,Zi (nn:Int)),(6,Zi (k:Int)),(54,.bool true)]) [5,6,7,8,0] Z).as (by (try rw [show (decide (((b.toNat:Nat):Int) < 48))=true from (Zdt h17)]);(try rfl)),M.mask [] Z⟩
   replace h17:=of_decide_eq_false h17
   refine Zg5 T (Zw (Zwy Z Z (T.e 0 Z) (Zdf h17)) (Zrm Z (T.e 6 Z))) Z (fun _ T=>Zw (Zwy Z Z (T.e 1 Z) (Zdf h17)) (Zrm Z (T.e 10 Z))) Z (fun _ T=>Zw (Zwy Z Z (T.e 2 Z) (Zdf h17)) (rn_sidx k Z underlying9 (T.e 1 Z) (T.e 0 Z) Z hkb)) Z (fun _ T=>Zw (Zwy Z Z (T.e 3 Z) (Zdf h17)) (rn_gtr Z (T.e 0 Z) evc)) Z (fun _ T=>Zq (Zr0 Z (T.e 4 Z) (Zdf h17) (T.e 0 Z))) Z ?_;intro ac T
   refine wpList_nil ?_
   replace T:=T.pick [0,1,2,3,4,11,12,13,14] rfl
   exact ⟨(T.pick (E':=[(0,sv s),(4,Zi 1),(5,Zi (nn:Int)),(6,Zi (k:Int)),(54,.bool (decide (57 < ((b.toNat:Nat):Int))))]) [5,6,7,8,0] Z).as (by (try rw [show (decide (((b.toNat:Nat):Int) < 48))=false from (Zdf h17)]);(try rfl)),M.mask [] Z⟩
  clear T M
  rintro ac wc ⟨T,M⟩
  refine wp_cond_split (T.e 4 Z) ?_ ?_
  ·intro h18
   (have h18':=h18;try simp only [Zb1,Zb2,Zb3,Zb4,Zb5,Zb6,Zb7] at h18')
   refine Zsr ?_
   refine Zg2 T (Zq (Zra Z evc)) Z (Zc Z) Z ?_;intro ac T
   replace T:=T.pick [0,1] rfl
   refine Zln ?_
   refine wp_ret ?_
   refine Zrt ?_
   refine Zrb ?_
   refine Zrt ?_
   refine Zrt ?_
   refine Zrb ?_
   refine Zrt ?_
   refine rt_2 T Z (T.e 1 Z) (T.e 0 Z) ?_
   have hh:s.head?≠some 45:=of_decide_eq_false (hb0.symm.trans (by assumption))
   have hnr:=numR_neg hh
   rw [hgd.1,hd,if_pos (dig_bad (by assumption))] at hnr
   exact NumPost.none hnr M.below
  intro h18
  (have h18':=h18;try simp only [Zb1,Zb2,Zb3,Zb4,Zb5,Zb6,Zb7] at h18')
  refine Zsk ?_
  refine wp_region_lit ?_
  refine Zg8 T (Zq (Zrm Z (T.e 2 Z))) Z (fun _ T=>Zq (rn_mul Z evc (T.e 0 Z) (by omega))) Z (Zm 2 Z Z) Z (Zm 6 Z Z) Z (fun _ T=>Zq (rn_sidx k Z underlying9 (T.e 1 Z) (T.e 0 Z) Z hkb)) Z (fun _ T=>Zq (rn_sub8 Z (T.e 0 Z) evc (by omega))) Z (fun _ T=>Zq (rn_cvt8 Z underlying5 underlying3 (T.e 0 Z) (by omega))) Z (fun _ T=>Zq (rn_add Z (T.e 5 Z) (T.e 0 Z) (by omega))) Z ?_;intro ac T
  refine l_q (v:=(Zi ((10 * (nn:Int))+(((b.toNat:Nat):Int) - 48)))) (T.pick [0,1,2,3,4,5,6,7,8,9,11,12] Z) Z Z Z Z (Zra Z (T.e 0 Z)) ?_;intro ac T
  refine wpList_nil ?_
  replace T:=T.pick [0,9,10,11] rfl
  refine Znb ?_
  refine nm_then ?_
  refine wp_region_lit ?_
  refine Zg2 T (Zq (Zrm Z (T.e 3 Z))) Z (fun _ T=>Zq (rn_add Z (T.e 0 Z) evc (by omega))) Z ?_;intro ac T
  refine l_q (v:=(Zi ((k:Int)+1))) (T.pick [0,1,2,3,4] Z) Z Z Z Z (Zra Z (T.e 0 Z)) ?_;intro ac T
  replace T:=T.pick [0,3,4,5] rfl
  refine Zln ?_
  have hdg:=dig_ok (b:=b) (by assumption)
  rw [if_neg (by omega)] at hd
  have e9:((10 * (nn:Int))+(((b.toNat:Nat):Int) - 48))=((10 * nn+(b.toNat - 48):Nat):Int):=by omega
  rw [e9] at T
  exact ⟨_,by omega,k+1,(10 * nn+(b.toNat - 48)),Z,(by omega),hd,(by omega),T.pick [2,3,1,0] Z,M.mask [] Z⟩
 intro h16
 refine wp_exit ?_
 refine Zet ?_
 refine Zet ?_
 refine ex_hit ?_
 refine nm_then ?_
 refine Zsr ?_
 refine Zg5 T (Zq (Zrm Z (T.e 2 Z))) Z (Zm 4 Z Z) Z (fun _ T=>Zq (rn_mul Z (T.e 1 Z) (T.e 0 Z) (by omega))) Z (Za 0 Z Z) Z (Zc Z) Z ?_;intro ac T
 replace T:=T.pick [0,1] rfl
 refine Zln ?_
 refine wp_ret ?_
 refine rt_2 T Z (T.e 1 Z) (T.e 0 Z) ?_
 have hh:s.head?≠some 45:=of_decide_eq_false (hb0.symm.trans (by assumption))
 have hnr:=numR_neg hh
 have hgd:=magF_ok hk0 (by assumption)
 rw [List.drop_of_length_le (by omega)] at hd
 rw [hgd.1,hd] at hnr
 have e9:(1 * (nn:Int))=(nn:Int):=by omega
 rw [e9]
 exact NumPost.some hnr M.below
end Go.Proofs.YtaikhendogcflaaGreatDoor

