/-
  Walks of functions, and plain laws (texts put together). No condition.
-/
import Derived.Shelf.Strings.OnBuilder
import Derived.Shelf.LaysM
import Derived.Shelf.Strconv.Itoa3
import Derived.Shelf.LaysC
import Derived.Shelf.Strconv.AtoiAll
import Derived.Shelf.Strings.Cut
import Derived.Shelf.Strings.Prefix
import Derived.Shelf.Strings.Split
import Derived.Test.YtaikhendogcflaaGreatDoorProg
import Derived.Lib.Split
import Derived.Lib.Atoi
import Derived.Lib.AtoiAll
import Derived.Lib.ItoaMem
import Derived.LaidMore
import Derived.Stop.Joined
import Derived.Stop.LaidErr
import Derived.Lib.LaidTab
import Derived.Shelf.Vars
import Derived.HandedShaped
import Derived.Lay
import Derived.Test.YtaikhendogcflaaGreatDoorRows
import Derived.Lib.Join
import Derived.Test.YtaikhendogcflaaGreatDoorMVoiceRead1
import Derived.Test.YtaikhendogcflaaGreatDoorMVoiceRead2
import Derived.Test.YtaikhendogcflaaGreatDoorMVoiceRead3
import Derived.Test.YtaikhendogcflaaGreatDoorMVoiceRead4
import Derived.Test.YtaikhendogcflaaGreatDoorMVoiceRead5
set_option maxRecDepth 100000
set_option maxHeartbeats 1000000
set_option linter.unusedSimpArgs false
set_option linter.unusedVariables false
namespace Go.Proofs.YtaikhendogcflaaGreatDoor
open Go.RowKit
section
open Go.Shelf
def Tryz.laysM171_ren : Go.Shelf.Ren := ⟨fun | 171 => 43 | 243 => 109 | 246 => 175 | 283 => 211 | 284 => 212 | 285 => 213 | 286 => 214 | 129 => 238 | 317 => 237 | 318 => 239 | 319 => 240 | 320 => 226 | 337 => 254 | 338 => 255 | n => n, fun | 3 => 3 | 9 => 9 | 2 => 2 | 4 => 4 | 171 => 308 | 0 => 0 | 53 => 84 | 37 => 93 | 5 => 5 | 173 => 311 | 212 => 334 | 51 => 335 | 20 => 20 | 213 => 336 | 46 => 87 | 232 => 360 | 233 => 361 | n => n, fun | 17 => 1 | 18 => 7 | 19 => 8 | n => n⟩
theorem Tryz.laysM171 : Go.Proofs.LaysM.n171 Tryz.prog Tryz.laysM171_ren := {
 mixed := by kernel_rfl
 f129 := Tryz.func238.trans (congrArg some (by kernel_rfl))
 f171 := Tryz.func43.trans (congrArg some (by kernel_rfl))
 f243 := Tryz.func109.trans (congrArg some (by kernel_rfl))
 f246 := Tryz.func175.trans (congrArg some (by kernel_rfl))
 f283 := Tryz.func211.trans (congrArg some (by kernel_rfl))
 f284 := Tryz.func212.trans (congrArg some (by kernel_rfl))
 f285 := Tryz.func213.trans (congrArg some (by kernel_rfl))
 f286 := Tryz.func214.trans (congrArg some (by kernel_rfl))
 f317 := Tryz.func237.trans (congrArg some (by kernel_rfl))
 f318 := Tryz.func239.trans (congrArg some (by kernel_rfl))
 f319 := Tryz.func240.trans (congrArg some (by kernel_rfl))
 f320 := Tryz.func226.trans (congrArg some (by kernel_rfl))
 f337 := Tryz.func254.trans (congrArg some (by kernel_rfl))
 f338 := Tryz.func255.trans (congrArg some (by kernel_rfl))
 t0 := Tryz.underlying0
 a0 := Tryz.isAgg0
 z0 := Tryz.sizeOf0
 v0 := Tryz.zeroValue0
 t2 := Tryz.underlying2
 a2 := Tryz.isAgg2
 z2 := Tryz.sizeOf2
 v2 := Tryz.zeroValue2
 t3 := Tryz.underlying3
 a3 := Tryz.isAgg3
 z3 := Tryz.sizeOf3
 v3 := Tryz.zeroValue3
 t4 := Tryz.underlying4
 a4 := Tryz.isAgg4
 z4 := Tryz.sizeOf4
 v4 := Tryz.zeroValue4
 t5 := Tryz.underlying5
 a5 := Tryz.isAgg5
 z5 := Tryz.sizeOf5
 v5 := Tryz.zeroValue5
 t9 := Tryz.underlying9
 a9 := Tryz.isAgg9
 z9 := Tryz.sizeOf9
 v9 := Tryz.zeroValue9
 t20 := Tryz.underlying20
 a20 := Tryz.isAgg20
 z20 := Tryz.sizeOf20
 v20 := Tryz.zeroValue20
 t37 := Tryz.underlying93
 a37 := Tryz.isAgg93
 z37 := Tryz.sizeOf93
 v37 := Tryz.zeroValue93
 t46 := Tryz.underlying87
 a46 := Tryz.isAgg87
 z46 := Tryz.sizeOf87
 v46 := Tryz.zeroValue87
 t51 := Tryz.underlying335
 a51 := Tryz.isAgg335
 z51 := Tryz.sizeOf335
 v51 := Tryz.zeroValue335
 t53 := Tryz.underlying84
 a53 := Tryz.isAgg84
 z53 := Tryz.sizeOf84
 v53 := Tryz.zeroValue84
 t171 := Tryz.underlying308
 a171 := Tryz.isAgg308
 z171 := Tryz.sizeOf308
 v171 := Tryz.zeroValue308
 t173 := Tryz.underlying311
 a173 := Tryz.isAgg311
 z173 := Tryz.sizeOf311
 v173 := Tryz.zeroValue311
 t212 := Tryz.underlying334
 a212 := Tryz.isAgg334
 z212 := Tryz.sizeOf334
 v212 := Tryz.zeroValue334
 t213 := Tryz.underlying336
 a213 := Tryz.isAgg336
 z213 := Tryz.sizeOf336
 t232 := Tryz.underlying360
 a232 := Tryz.isAgg360
 z232 := Tryz.sizeOf360
 v232 := Tryz.zeroValue360
 t233 := Tryz.underlying361
 a233 := Tryz.isAgg361
 z233 := Tryz.sizeOf361
 v233 := Tryz.zeroValue361
 g17 := by kernel_rfl
 g18 := by kernel_rfl
 g19 := by kernel_rfl
 i0 := by kernel_rfl
 i2 := by kernel_rfl
 i3 := by kernel_rfl
 i4 := by kernel_rfl
 i5 := by kernel_rfl
 i9 := by kernel_rfl
 i20 := by kernel_rfl
 i37 := by kernel_rfl
 i46 := by kernel_rfl
 i51 := by kernel_rfl
 i53 := by kernel_rfl
 i171 := by kernel_rfl
 i173 := by kernel_rfl
 i212 := by kernel_rfl
 i232 := by kernel_rfl
 i233 := by kernel_rfl
 m17 := by kernel_rfl
 m18 := by kernel_rfl
 m19 := by kernel_rfl }
def Tryz.laysC172_ren : Go.Shelf.Ren := ⟨fun | 172 => 179 | 244 => 219 | 245 => 220 | 247 => 246 | 279 => 247 | 280 => 248 | 281 => 249 | 282 => 250 | 287 => 261 | 316 => 262 | 171 => 43 | 205 => 263 | 321 => 265 | 322 => 266 | 243 => 109 | 246 => 175 | 283 => 211 | 284 => 212 | 285 => 213 | 286 => 214 | 129 => 238 | 317 => 237 | 318 => 239 | 319 => 240 | 320 => 226 | 337 => 254 | 338 => 255 | n => n, fun | 9 => 9 | 3 => 3 | 75 => 133 | 76 => 216 | 4 => 4 | 5 => 5 | 167 => 337 | 37 => 93 | 0 => 0 | 85 => 338 | 2 => 2 | 168 => 340 | 53 => 84 | 175 => 354 | 46 => 87 | 210 => 358 | 127 => 280 | 145 => 366 | 143 => 364 | 21 => 21 | 171 => 308 | 173 => 311 | 212 => 334 | 51 => 335 | 20 => 20 | 213 => 336 | 232 => 360 | 233 => 361 | 80 => 218 | n => n, fun | 15 => 5 | 16 => 6 | 17 => 1 | 18 => 7 | 19 => 8 | n => n⟩
theorem Tryz.laysC172 : Go.Proofs.LaysC.n172 Tryz.prog Tryz.laysC172_ren := {
 mixed := by kernel_rfl
 f129 := Tryz.func238.trans (congrArg some (by kernel_rfl))
 f171 := Tryz.func43.trans (congrArg some (by kernel_rfl))
 f172 := Tryz.func179.trans (congrArg some (by kernel_rfl))
 f205 := Tryz.func263.trans (congrArg some (by kernel_rfl))
 f243 := Tryz.func109.trans (congrArg some (by kernel_rfl))
 f244 := Tryz.func219.trans (congrArg some (by kernel_rfl))
 f245 := Tryz.func220.trans (congrArg some (by kernel_rfl))
 f246 := Tryz.func175.trans (congrArg some (by kernel_rfl))
 f247 := Tryz.func246.trans (congrArg some (by kernel_rfl))
 f279 := Tryz.func247.trans (congrArg some (by kernel_rfl))
 f280 := Tryz.func248.trans (congrArg some (by kernel_rfl))
 f281 := Tryz.func249.trans (congrArg some (by kernel_rfl))
 f282 := Tryz.func250.trans (congrArg some (by kernel_rfl))
 f283 := Tryz.func211.trans (congrArg some (by kernel_rfl))
 f284 := Tryz.func212.trans (congrArg some (by kernel_rfl))
 f285 := Tryz.func213.trans (congrArg some (by kernel_rfl))
 f286 := Tryz.func214.trans (congrArg some (by kernel_rfl))
 f287 := Tryz.func261.trans (congrArg some (by kernel_rfl))
 f316 := Tryz.func262.trans (congrArg some (by kernel_rfl))
 f317 := Tryz.func237.trans (congrArg some (by kernel_rfl))
 f318 := Tryz.func239.trans (congrArg some (by kernel_rfl))
 f319 := Tryz.func240.trans (congrArg some (by kernel_rfl))
 f320 := Tryz.func226.trans (congrArg some (by kernel_rfl))
 f321 := Tryz.func265.trans (congrArg some (by kernel_rfl))
 f322 := Tryz.func266.trans (congrArg some (by kernel_rfl))
 f337 := Tryz.func254.trans (congrArg some (by kernel_rfl))
 f338 := Tryz.func255.trans (congrArg some (by kernel_rfl))
 t0 := Tryz.underlying0
 a0 := Tryz.isAgg0
 z0 := Tryz.sizeOf0
 v0 := Tryz.zeroValue0
 t2 := Tryz.underlying2
 a2 := Tryz.isAgg2
 z2 := Tryz.sizeOf2
 v2 := Tryz.zeroValue2
 t3 := Tryz.underlying3
 a3 := Tryz.isAgg3
 z3 := Tryz.sizeOf3
 v3 := Tryz.zeroValue3
 t4 := Tryz.underlying4
 a4 := Tryz.isAgg4
 z4 := Tryz.sizeOf4
 v4 := Tryz.zeroValue4
 t5 := Tryz.underlying5
 a5 := Tryz.isAgg5
 z5 := Tryz.sizeOf5
 v5 := Tryz.zeroValue5
 t9 := Tryz.underlying9
 a9 := Tryz.isAgg9
 z9 := Tryz.sizeOf9
 v9 := Tryz.zeroValue9
 t20 := Tryz.underlying20
 a20 := Tryz.isAgg20
 z20 := Tryz.sizeOf20
 v20 := Tryz.zeroValue20
 t21 := Tryz.underlying21
 a21 := Tryz.isAgg21
 z21 := Tryz.sizeOf21
 v21 := Tryz.zeroValue21
 t37 := Tryz.underlying93
 a37 := Tryz.isAgg93
 z37 := Tryz.sizeOf93
 v37 := Tryz.zeroValue93
 t46 := Tryz.underlying87
 a46 := Tryz.isAgg87
 z46 := Tryz.sizeOf87
 v46 := Tryz.zeroValue87
 t51 := Tryz.underlying335
 a51 := Tryz.isAgg335
 z51 := Tryz.sizeOf335
 v51 := Tryz.zeroValue335
 t53 := Tryz.underlying84
 a53 := Tryz.isAgg84
 z53 := Tryz.sizeOf84
 v53 := Tryz.zeroValue84
 t75 := Tryz.underlying133
 a75 := Tryz.isAgg133
 z75 := Tryz.sizeOf133
 v75 := Tryz.zeroValue133
 t76 := Tryz.underlying216
 a76 := Tryz.isAgg216
 z76 := Tryz.sizeOf216
 v76 := Tryz.zeroValue216
 t85 := Tryz.underlying338
 a85 := Tryz.isAgg338
 z85 := Tryz.sizeOf338
 v85 := Tryz.zeroValue338
 t127 := Tryz.underlying280
 a127 := Tryz.isAgg280
 z127 := Tryz.sizeOf280
 v127 := Tryz.zeroValue280
 t143 := Tryz.underlying364
 a143 := Tryz.isAgg364
 z143 := Tryz.sizeOf364
 v143 := Tryz.zeroValue364
 t145 := Tryz.underlying366
 a145 := Tryz.isAgg366
 z145 := Tryz.sizeOf366
 v145 := Tryz.zeroValue366
 t167 := Tryz.underlying337
 a167 := Tryz.isAgg337
 z167 := Tryz.sizeOf337
 v167 := Tryz.zeroValue337
 t168 := Tryz.underlying340
 a168 := Tryz.isAgg340
 z168 := Tryz.sizeOf340
 v168 := Tryz.zeroValue340
 t171 := Tryz.underlying308
 a171 := Tryz.isAgg308
 z171 := Tryz.sizeOf308
 v171 := Tryz.zeroValue308
 t173 := Tryz.underlying311
 a173 := Tryz.isAgg311
 z173 := Tryz.sizeOf311
 v173 := Tryz.zeroValue311
 t175 := Tryz.underlying354
 a175 := Tryz.isAgg354
 z175 := Tryz.sizeOf354
 v175 := Tryz.zeroValue354
 t210 := Tryz.underlying358
 a210 := Tryz.isAgg358
 z210 := Tryz.sizeOf358
 v210 := Tryz.zeroValue358
 t212 := Tryz.underlying334
 a212 := Tryz.isAgg334
 z212 := Tryz.sizeOf334
 v212 := Tryz.zeroValue334
 t213 := Tryz.underlying336
 a213 := Tryz.isAgg336
 z213 := Tryz.sizeOf336
 t232 := Tryz.underlying360
 a232 := Tryz.isAgg360
 z232 := Tryz.sizeOf360
 v232 := Tryz.zeroValue360
 t233 := Tryz.underlying361
 a233 := Tryz.isAgg361
 z233 := Tryz.sizeOf361
 v233 := Tryz.zeroValue361
 g15 := by kernel_rfl
 g16 := by kernel_rfl
 g17 := by kernel_rfl
 g18 := by kernel_rfl
 g19 := by kernel_rfl
 t80 := Tryz.underlying218
 a80 := Tryz.isAgg218
 z80 := Tryz.sizeOf218
 v80 := Tryz.zeroValue218
 i0 := by kernel_rfl
 i2 := by kernel_rfl
 i3 := by kernel_rfl
 i4 := by kernel_rfl
 i5 := by kernel_rfl
 i9 := by kernel_rfl
 i20 := by kernel_rfl
 i21 := by kernel_rfl
 i37 := by kernel_rfl
 i46 := by kernel_rfl
 i51 := by kernel_rfl
 i53 := by kernel_rfl
 i75 := by kernel_rfl
 i76 := by kernel_rfl
 i80 := by kernel_rfl
 i85 := by kernel_rfl
 i127 := by kernel_rfl
 i143 := by kernel_rfl
 i145 := by kernel_rfl
 i167 := by kernel_rfl
 i168 := by kernel_rfl
 i171 := by kernel_rfl
 i173 := by kernel_rfl
 i175 := by kernel_rfl
 i210 := by kernel_rfl
 i212 := by kernel_rfl
 i232 := by kernel_rfl
 i233 := by kernel_rfl
 m15 := by kernel_rfl
 m16 := by kernel_rfl
 m17 := by kernel_rfl
 m18 := by kernel_rfl
 m19 := by kernel_rfl
 c0 := by kernel_rfl
 c2 := by kernel_rfl
 c3 := by kernel_rfl
 c4 := by kernel_rfl
 c5 := by kernel_rfl
 c9 := by kernel_rfl
 c20 := by kernel_rfl
 c21 := by kernel_rfl
 c37 := by kernel_rfl
 c46 := by kernel_rfl
 c51 := by kernel_rfl
 c53 := by kernel_rfl
 c75 := by kernel_rfl
 c76 := by kernel_rfl
 c80 := by kernel_rfl
 c85 := by kernel_rfl
 c127 := by kernel_rfl
 c143 := by kernel_rfl
 c145 := by kernel_rfl
 c167 := by kernel_rfl
 c168 := by kernel_rfl
 c171 := by kernel_rfl
 c173 := by kernel_rfl
 c175 := by kernel_rfl
 c210 := by kernel_rfl
 c212 := by kernel_rfl
 c213 := by kernel_rfl
 c232 := by kernel_rfl
 c233 := by kernel_rfl }
def Tryz.lays145_ren : Go.Shelf.Ren := ⟨fun | 145 => 118 | 220 => 181 | 219 => 218 | 217 => 242 | 225 => 243 | 224 => 244 | 267 => 245 | 266 => 259 | 314 => 260 | n => n, fun | 9 => 9 | 4 => 4 | 59 => 178 | 3 => 3 | 5 => 5 | 46 => 87 | 146 => 352 | 51 => 335 | n => n, fun | 1 => 2 | n => n⟩
theorem Tryz.lays145 : Go.Proofs.Lays.n145 Tryz.prog Tryz.lays145_ren := {
 mixed := by kernel_rfl
 f145 := Tryz.func118.trans (congrArg some (by kernel_rfl))
 f217 := Tryz.func242.trans (congrArg some (by kernel_rfl))
 f219 := Tryz.func218.trans (congrArg some (by kernel_rfl))
 f220 := Tryz.func181.trans (congrArg some (by kernel_rfl))
 f224 := Tryz.func244.trans (congrArg some (by kernel_rfl))
 f225 := Tryz.func243.trans (congrArg some (by kernel_rfl))
 f266 := Tryz.func259.trans (congrArg some (by kernel_rfl))
 f267 := Tryz.func245.trans (congrArg some (by kernel_rfl))
 f314 := Tryz.func260.trans (congrArg some (by kernel_rfl))
 t3 := Tryz.underlying3
 a3 := Tryz.isAgg3
 z3 := Tryz.sizeOf3
 v3 := Tryz.zeroValue3
 t4 := Tryz.underlying4
 a4 := Tryz.isAgg4
 z4 := Tryz.sizeOf4
 v4 := Tryz.zeroValue4
 t5 := Tryz.underlying5
 a5 := Tryz.isAgg5
 z5 := Tryz.sizeOf5
 v5 := Tryz.zeroValue5
 t9 := Tryz.underlying9
 a9 := Tryz.isAgg9
 z9 := Tryz.sizeOf9
 v9 := Tryz.zeroValue9
 t46 := Tryz.underlying87
 a46 := Tryz.isAgg87
 z46 := Tryz.sizeOf87
 v46 := Tryz.zeroValue87
 t51 := Tryz.underlying335
 a51 := Tryz.isAgg335
 z51 := Tryz.sizeOf335
 v51 := Tryz.zeroValue335
 t59 := Tryz.underlying178
 a59 := Tryz.isAgg178
 z59 := Tryz.sizeOf178
 v59 := Tryz.zeroValue178
 t146 := Tryz.underlying352
 a146 := Tryz.isAgg352
 z146 := Tryz.sizeOf352
 v146 := Tryz.zeroValue352
 g1 := by kernel_rfl }
def Tryz.lays99_ren : Go.Shelf.Ren := ⟨fun | 99 => 48 | 206 => 116 | n => n, fun | 9 => 9 | 4 => 4 | 3 => 3 | n => n, fun | n => n⟩
theorem Tryz.lays99 : Go.Proofs.Lays.n99 Tryz.prog Tryz.lays99_ren := {
 mixed := by kernel_rfl
 f99 := Tryz.func48.trans (congrArg some (by kernel_rfl))
 f206 := Tryz.func116.trans (congrArg some (by kernel_rfl))
 t3 := Tryz.underlying3
 a3 := Tryz.isAgg3
 z3 := Tryz.sizeOf3
 v3 := Tryz.zeroValue3
 t4 := Tryz.underlying4
 a4 := Tryz.isAgg4
 z4 := Tryz.sizeOf4
 v4 := Tryz.zeroValue4
 t9 := Tryz.underlying9
 a9 := Tryz.isAgg9
 z9 := Tryz.sizeOf9
 v9 := Tryz.zeroValue9 }
def Tryz.lays101_ren : Go.Shelf.Ren := ⟨fun | 101 => 180 | 208 => 221 | 206 => 116 | n => n, fun | 9 => 9 | 4 => 4 | 3 => 3 | n => n, fun | n => n⟩
theorem Tryz.lays101 : Go.Proofs.Lays.n101 Tryz.prog Tryz.lays101_ren := {
 mixed := by kernel_rfl
 f101 := Tryz.func180.trans (congrArg some (by kernel_rfl))
 f206 := Tryz.func116.trans (congrArg some (by kernel_rfl))
 f208 := Tryz.func221.trans (congrArg some (by kernel_rfl))
 t3 := Tryz.underlying3
 a3 := Tryz.isAgg3
 z3 := Tryz.sizeOf3
 v3 := Tryz.zeroValue3
 t4 := Tryz.underlying4
 a4 := Tryz.isAgg4
 z4 := Tryz.sizeOf4
 v4 := Tryz.zeroValue4
 t9 := Tryz.underlying9
 a9 := Tryz.isAgg9
 z9 := Tryz.sizeOf9
 v9 := Tryz.zeroValue9 }
def Tryz.lays146_ren : Go.Shelf.Ren := ⟨fun | 146 => 46 | 221 => 110 | 268 => 176 | 138 => 177 | 143 => 178 | 195 => 215 | 197 => 216 | 218 => 217 | 219 => 218 | 260 => 241 | 217 => 242 | 225 => 243 | 224 => 244 | 267 => 245 | 266 => 259 | 314 => 260 | n => n, fun | 9 => 9 | 31 => 37 | 3 => 3 | 4 => 4 | 0 => 0 | 105 => 314 | 21 => 21 | 5 => 5 | 46 => 87 | 119 => 348 | 139 => 351 | 138 => 350 | 146 => 352 | 51 => 335 | n => n, fun | 1 => 2 | 3 => 3 | 4 => 4 | n => n⟩
theorem Tryz.lays146 : Go.Proofs.Lays.n146 Tryz.prog Tryz.lays146_ren := {
 mixed := by kernel_rfl
 f138 := Tryz.func177.trans (congrArg some (by kernel_rfl))
 f143 := Tryz.func178.trans (congrArg some (by kernel_rfl))
 f146 := Tryz.func46.trans (congrArg some (by kernel_rfl))
 f195 := Tryz.func215.trans (congrArg some (by kernel_rfl))
 f197 := Tryz.func216.trans (congrArg some (by kernel_rfl))
 f217 := Tryz.func242.trans (congrArg some (by kernel_rfl))
 f218 := Tryz.func217.trans (congrArg some (by kernel_rfl))
 f219 := Tryz.func218.trans (congrArg some (by kernel_rfl))
 f221 := Tryz.func110.trans (congrArg some (by kernel_rfl))
 f224 := Tryz.func244.trans (congrArg some (by kernel_rfl))
 f225 := Tryz.func243.trans (congrArg some (by kernel_rfl))
 f260 := Tryz.func241.trans (congrArg some (by kernel_rfl))
 f266 := Tryz.func259.trans (congrArg some (by kernel_rfl))
 f267 := Tryz.func245.trans (congrArg some (by kernel_rfl))
 f268 := Tryz.func176.trans (congrArg some (by kernel_rfl))
 f314 := Tryz.func260.trans (congrArg some (by kernel_rfl))
 t0 := Tryz.underlying0
 a0 := Tryz.isAgg0
 z0 := Tryz.sizeOf0
 v0 := Tryz.zeroValue0
 t3 := Tryz.underlying3
 a3 := Tryz.isAgg3
 z3 := Tryz.sizeOf3
 v3 := Tryz.zeroValue3
 t4 := Tryz.underlying4
 a4 := Tryz.isAgg4
 z4 := Tryz.sizeOf4
 v4 := Tryz.zeroValue4
 t5 := Tryz.underlying5
 a5 := Tryz.isAgg5
 z5 := Tryz.sizeOf5
 v5 := Tryz.zeroValue5
 t9 := Tryz.underlying9
 a9 := Tryz.isAgg9
 z9 := Tryz.sizeOf9
 v9 := Tryz.zeroValue9
 t21 := Tryz.underlying21
 a21 := Tryz.isAgg21
 z21 := Tryz.sizeOf21
 v21 := Tryz.zeroValue21
 t31 := Tryz.underlying37
 a31 := Tryz.isAgg37
 z31 := Tryz.sizeOf37
 v31 := Tryz.zeroValue37
 t46 := Tryz.underlying87
 a46 := Tryz.isAgg87
 z46 := Tryz.sizeOf87
 v46 := Tryz.zeroValue87
 t51 := Tryz.underlying335
 a51 := Tryz.isAgg335
 z51 := Tryz.sizeOf335
 v51 := Tryz.zeroValue335
 t105 := Tryz.underlying314
 a105 := Tryz.isAgg314
 z105 := Tryz.sizeOf314
 v105 := Tryz.zeroValue314
 t119 := Tryz.underlying348
 a119 := Tryz.isAgg348
 z119 := Tryz.sizeOf348
 t138 := Tryz.underlying350
 a138 := Tryz.isAgg350
 z138 := Tryz.sizeOf350
 v138 := Tryz.zeroValue350
 t139 := Tryz.underlying351
 a139 := Tryz.isAgg351
 z139 := Tryz.sizeOf351
 v139 := Tryz.zeroValue351
 t146 := Tryz.underlying352
 a146 := Tryz.isAgg352
 z146 := Tryz.sizeOf352
 v146 := Tryz.zeroValue352
 g1 := by kernel_rfl
 g3 := by kernel_rfl
 g4 := by kernel_rfl }
end
section
open Go Go.Lib
def spl (c : UInt8) : List UInt8 → List (List UInt8)
 | [] => [[]]
 | b :: r => if b = c then [] :: spl c r else match spl c r with
  | [] => [[b]]
  | x :: l => (b :: x) :: l
theorem spl_ne (c : UInt8) : ∀ s, spl c s ≠ []
 | [] => by simp [spl]
 | b :: r => by
  unfold spl
  split
  ·simp
  ·split <;> simp
theorem index_hit (c : UInt8) (r : List UInt8) : index (c :: r) [c] = 0 := by
 unfold index
 rw [if_pos (by simp)]
theorem index_skip {b c : UInt8} (h : b ≠ c) (r : List UInt8) : index (b :: r) [c] = if index r [c] = -1 then -1 else index r [c] + 1 := by
 rw [index, if_neg (by simp [List.isPrefixOf]; exact fun e => h e.symm)]
 by_cases h1 : index r [c] = -1
 · rw [if_pos (beq_iff_eq.2 h1), if_pos h1]
 · rw [if_neg (fun e => h1 (beq_iff_eq.1 e)), if_neg h1]
theorem split_spl (c : UInt8) : ∀ s : List UInt8, split s [c] = spl c s
 | [] => by
  unfold split
  rw [count_miss (by rfl)]
  rfl
 | b :: r => by
  have ih := split_spl c r
  by_cases hb : b = c
  ·subst hb
   have h0 := index_hit b r
   unfold split
   rw [count_hit (by simp) (show index (b :: r) [b] = ((0 : Nat) : Int) from h0), Nat.add_comm 1, splitK, if_neg (by rw [h0]; decide), h0]
   unfold spl
   rw [if_pos rfl, ← ih]
   rfl
  ·have h1 := index_skip hb r
   by_cases hm : index r [c] = -1
   ·rw [if_pos hm] at h1
    have e : split r [c] = [r] := by unfold split; rw [count_miss hm]; rfl
    unfold split
    rw [count_miss h1]
    unfold spl
    rw [if_neg hb, ← ih, e]
    rfl
   ·rw [if_neg hm] at h1
    obtain ⟨i, hi⟩ : ∃ i : Nat, index r [c] = i := ⟨(index r [c]).toNat, by have := index_ge r [c]; omega⟩
    have h2 : index (b :: r) [c] = ((i + 1 : Nat) : Int) := by rw [h1, hi]; rfl
    have c1 := count_hit (sub := [c]) (by simp) hi
    have c2 := count_hit (sub := [c]) (by simp) h2
    have e1 : split r [c] = r.take i :: splitK [c] 0 (count (r.drop (i + 1)) [c]) (r.drop (i + 1)) := by
     unfold split
     rw [c1, Nat.add_comm 1, splitK, if_neg (by rw [hi]; intro e; have := beq_iff_eq.1 e; omega), hi]
     rfl
    have e2 : split (b :: r) [c] = (b :: r.take i) :: splitK [c] 0 (count (r.drop (i + 1)) [c]) (r.drop (i + 1)) := by
     unfold split
     rw [c2, Nat.add_comm 1, splitK, if_neg (by rw [h2]; intro e; have := beq_iff_eq.1 e; omega), h2]
     rfl
    unfold spl
    rw [if_neg hb, ← ih, e1, e2]
theorem cut_spl (c : UInt8) : ∀ s : List UInt8, (c ∉ s ∧ cut s [c] = (s, [], false) ∧ spl c s = [s]) ∨ ∃ a r, c ∉ a ∧ s = a ++ c :: r ∧ cut s [c] = (a, r, true) ∧ spl c s = a :: spl c r
 | [] => .inl ⟨by simp, by rfl, rfl⟩
 | b :: r => by
   by_cases hb : b = c
   · subst hb
     refine .inr ⟨[], r, by simp, rfl, ?_, by rw [spl, if_pos rfl]⟩
     unfold cut
     rw [index_hit]
     rfl
   · have h1 := index_skip hb r
     rcases cut_spl c r with ⟨hn, hc, hs⟩ | ⟨a, q, hn, rfl, hc, hs⟩
     · have hm : index r [c] = -1 := by
         unfold cut at hc
         split at hc
         · exact absurd (congrArg (·.2.2) hc) (by simp)
         · have := index_ge r [c]; omega
       rw [if_pos hm] at h1
       refine .inl ⟨by simp [hn]; exact fun e => hb e.symm, ?_, ?_⟩
       · unfold cut
         rw [h1]
         rfl
       · rw [spl, if_neg hb, hs]
     · have hm : ¬ index (a ++ c :: q) [c] = -1 := by
         intro hm
         unfold cut at hc
         rw [if_neg (by omega)] at hc
         exact absurd (congrArg (·.2.2) hc) (by simp)
       rw [if_neg hm] at h1
       obtain ⟨i, hi⟩ : ∃ i : Nat, index (a ++ c :: q) [c] = i := ⟨(index (a ++ c :: q) [c]).toNat, by have := index_ge (a ++ c :: q) [c]; omega⟩
       refine .inr ⟨b :: a, q, by simp [hn]; exact fun e => hb e.symm, rfl, ?_, ?_⟩
       · unfold cut at hc ⊢
         rw [hi, if_pos (by omega)] at hc
         rw [h1, hi, if_pos (by omega)]
         have k1 := congrArg (·.1) hc
         have k2 := congrArg (·.2.1) hc
         dsimp only at k1 k2
         have t1 : ((i : Int) + 1).toNat = i + 1 := by omega
         have t2 : (i : Int).toNat = i := by omega
         rw [t2] at k1 k2
         rw [t1, Zy2, k1]
         have : i + 1 + [c].length = (i + [c].length) + 1 := by omega
         rw [this, Zy1, k2]
       · rw [spl, if_neg hb, hs]
end
section
open Go Go.Lib
def trim45 : List UInt8 → List UInt8
 | [] => []
 | b :: r => if b = 45 then r else b :: r
def numP (s : List UInt8) : Option Int := match atoiAll s with
 | .ok v => if (trim45 s).length ≤ 3 ∧ itoa v = s then some v else none
 | _ => none
def digR : Nat → List UInt8 → Option Nat
 | n, [] => some n
 | n, b :: r => if b.toNat < 48 ∨ 57 < b.toNat then none else digR (10 * n + (b.toNat - 48)) r
def magR (neg : Bool) (w : List UInt8) : Option Nat :=
 if w.length < 1 ∨ 3 < w.length ∨ (w.head? = some 48 ∧ (1 < w.length ∨ neg = true)) then none else digR 0 w
def numR (s : List UInt8) : Option Int := if s.head? = some 45 then (magR true (s.drop 1)).map fun n : Nat => -(n : Int) else (magR false s).map fun n : Nat => (n : Int)
def dd3 (u : Nat) : List UInt8 := if u < 10 then [UInt8.ofNat (48 + u)] else if u < 100 then [UInt8.ofNat (48 + u / 10), UInt8.ofNat (48 + u % 10)] else [UInt8.ofNat (48 + u / 100), UInt8.ofNat (48 + u / 10 % 10), UInt8.ofNat (48 + u % 10)]
theorem dd3_eq {u : Nat} (h : u < 1000) : decDigits u = dd3 u := by
 unfold dd3
 split
 ·rename_i h1; exact decDigits_one h1
 ·rename_i h1
  split
  ·rename_i h2; exact decDigits_two h1 h2
  ·rename_i h2
   rw [decDigits, dif_neg h1, decDigits_two (by omega) (by omega), Nat.div_div_eq_div_mul]
   rfl
def it3 (v : Int) : List UInt8 := if v < 0 then 45 :: dd3 v.natAbs else dd3 v.toNat
theorem it3_eq {v : Int} (h : -999 ≤ v ∧ v ≤ 999) : itoa v = it3 v := by
 unfold itoa it3
 split
 · rw [dd3_eq (by omega)]
 · rw [dd3_eq (by omega)]
theorem fin_pos : ∀ u : Fin 1000, atoiAll (dd3 u.val) = .ok (u.val : Int) ∧ (trim45 (dd3 u.val)).length ≤ 3 ∧ numR (dd3 u.val) = some (u.val : Int) := by decide +kernel
theorem fin_neg : ∀ u : Fin 1000, 0 < u.val → atoiAll (45 :: dd3 u.val) = .ok (-(u.val : Int)) ∧ (trim45 (45 :: dd3 u.val)).length ≤ 3 ∧ numR (45 :: dd3 u.val) = some (-(u.val : Int)) := by decide +kernel
theorem it3_all {v : Int} (h : -999 ≤ v ∧ v ≤ 999) : atoiAll (it3 v) = .ok v ∧ (trim45 (it3 v)).length ≤ 3 ∧ numR (it3 v) = some v := by
 unfold it3
 split
 ·have := fin_neg ⟨v.natAbs, by omega⟩ (by show 0 < v.natAbs; omega)
  dsimp only at this
  rwa [show -((v.natAbs : Nat) : Int) = v by omega] at this
 ·have := fin_pos ⟨v.toNat, by omega⟩
  dsimp only at this
  rwa [show ((v.toNat : Nat) : Int) = v by omega] at this
theorem dec_head (u : Nat) : (decDigits u).head? ≠ some 45 := by
 induction u using Nat.strongRecOn with
 | _ u ih =>
  rw [decDigits]
  split
  ·rename_i h
   have : ∀ x : Fin 10, ([UInt8.ofNat (48 + x.val)] : List UInt8).head? ≠ some 45 := by decide +kernel
   exact this ⟨u, h⟩
  ·rename_i h
   have h1 := ih (u / 10) (by omega)
   have h2 : decDigits (u / 10) ≠ [] := by
    intro e
    have := decDigits_length (u / 10)
    rw [e] at this
    have := nDigits_pos (u / 10)
    simp at *
    omega
   cases hd : decDigits (u / 10) with
   | nil => exact absurd hd h2
   | cons a r => rw [hd] at h1; exact h1
theorem trim_dec (u : Nat) : trim45 (decDigits u) = decDigits u := by
 have h := dec_head u
 cases hd : decDigits u with
 | nil => rfl
 | cons a r =>
  rw [hd] at h
  show (if a = 45 then r else a :: r) = a :: r
  rw [if_neg (fun e => h (by rw [e]; rfl))]
theorem numP_iff {s : List UInt8} {v : Int} : numP s = some v ↔ (-999 ≤ v ∧ v ≤ 999) ∧ s = it3 v := by
 constructor
 ·intro h
  unfold numP at h
  split at h
  ·rename_i v' ha
   split at h
   ·rename_i hc
    cases h
    obtain ⟨h1, h2⟩ := hc
    have hb : -999 ≤ v ∧ v ≤ 999 := by
     rw [← h2] at h1
     unfold itoa at h1
     split at h1
     ·have h3 : trim45 (45 :: decDigits v.natAbs) = decDigits v.natAbs := by simp only [trim45, if_true]
      rw [h3, decDigits_length] at h1
      have h4 := lt_pow_nDigits v.natAbs
      have h5 : 10 ^ nDigits v.natAbs ≤ 10 ^ 3 := Nat.pow_le_pow_right (by decide) h1
      omega
     ·rw [trim_dec, decDigits_length] at h1
      have h4 := lt_pow_nDigits v.toNat
      have h5 : 10 ^ nDigits v.toNat ≤ 10 ^ 3 := Nat.pow_le_pow_right (by decide) h1
      omega
    exact ⟨hb, by rw [← it3_eq hb, h2]⟩
   ·cases h
  ·cases h
 ·rintro ⟨hb, rfl⟩
  obtain ⟨h1, h2, -⟩ := it3_all hb
  unfold numP
  rw [h1]
  dsimp only
  rw [if_pos ⟨h2, it3_eq hb⟩]
end
structure StrW (w : World) : Prop where
 pow : Lib.TabIs Tryz.prog w "internal/strconv.uint64pow10" .u64 Lib.pow10Tab
 ml : ∃ m, w.cell? ⟨2, 0, none⟩ = some (.int .i64 m)
 syn : ∃ ev, w.cell? ⟨5, 0, none⟩ = some ev ∧ (ev = .nilIface ∨ ∃ te pe, ev = .iface te pe)
 rng : ∃ ev, w.cell? ⟨6, 0, none⟩ = some ev ∧ (ev = .nilIface ∨ ∃ te pe, ev = .iface te pe)
 lt : 8 < w.heap.size
theorem powNamed : Tryz.prog.globalNamed "internal/strconv.uint64pow10" = some 1 := by kernel_rfl
theorem StrW.mem {w wc : World} {ex : Nat → Prop} {L : List (Nat × BA)} (h : StrW w) (M : Mem w ex wc L) (hx : ∀ b, b ≤ 8 → ¬ ex b) : StrW wc := by
 have hl := h.lt
 have hb : ∀ b, b ≤ 8 → wc.heap[b]? = w.heap[b]? := fun b hb => M.block b (by omega) (hx b hb)
 have hc : ∀ b, b ≤ 8 → ∀ v, w.cell? ⟨b, 0, none⟩ = some v → wc.cell? ⟨b, 0, none⟩ = some v := fun b h9 v hv => (World.cell?_of_block (w := w) (a := ⟨b, 0, none⟩) (hb b h9)).trans hv
 refine ⟨?_, ?_, ?_, ?_, Nat.lt_of_lt_of_le hl M.size⟩
 ·have hp := h.pow
  unfold Lib.TabIs World.var? at hp ⊢
  rw [powNamed] at hp ⊢
  simp only [Option.bind_some] at hp ⊢
  rw [hb 1 (by decide)]
  exact hp
 ·obtain ⟨m, hm⟩ := h.ml
  exact ⟨m, hc _ (by decide) _ hm⟩
 ·obtain ⟨ev, h1, h2⟩ := h.syn
  exact ⟨ev, hc _ (by decide) _ h1, h2⟩
 ·obtain ⟨ev, h1, h2⟩ := h.rng
  exact ⟨ev, hc _ (by decide) _ h1, h2⟩
theorem StrW.mem0 {w wc : World} {L : List (Nat × BA)} (h : StrW w) (M : Mem w noEx wc L) : StrW wc := h.mem M (fun _ _ h => h)
def stE (p : (List UInt8)) : List Value := [sv p]
def st (l : List (List UInt8)) : List Value := l.flatMap stE
theorem st_get : ∀ (l : List (List UInt8)) (k : Nat) {x : (List UInt8)}, l[k]? = some x → ∀ (i : Nat) (v : Value), (stE x)[i]? = some v → (st l)[k * 1 + i]? = some v
 | [], k, x, h => by simp at h
 | y :: l, 0, x, h => by
  intro i v hv
  simp only [List.getElem?_cons_zero, Option.some.injEq] at h
  subst h
  show (stE y ++ st l)[0 * 1 + i]? = some v
  rw [Nat.zero_mul, Nat.zero_add, List.getElem?_append_left (List.getElem?_eq_some_iff.1 hv).1]
  exact hv
 | y :: l, k + 1, x, h => by
  intro i v hv
  have := st_get l k (by simpa using h) i v hv
  show (stE y ++ st l)[(k + 1) * 1 + i]? = some v
  have e : (stE y).length = 1 := rfl
  rw [List.getElem?_append_right (by rw [e]; omega), e, show (k + 1) * 1 + i - 1 = k * 1 + i by omega]
  exact this
section
variable {w w' : World} {ex : Nat → Prop} {I L : List (Nat × BA)} {n b o k : Nat} {A : Option Addr} {l : List (List UInt8)} {p : (List UInt8)}
theorem Sp.stA (S : Sp w ex I A n 1 b o (st l)) (M : Mem w ex w' L) (hI : I.Sublist L) (h : l[k]? = some p) (f : Nat) (v : Value) (hv : (stE p)[f]? = some v) : w'.cell? ⟨b, o + k * 1 + f, none⟩ = some v := by
 have := S.cell w' L M hI _ _ (st_get l k h f v hv)
 rwa [← Nat.add_assoc] at this
theorem Sp.stC0 (S : Sp w ex I A n 1 b o (st l)) (M : Mem w ex w' L) (hI : I.Sublist L) (h : l[k]? = some p) : w'.cell? ⟨b, o + k * 1 + 0, none⟩ = some (sv p) := S.stA M hI h 0 _ rfl
end
theorem Itoa_any (n : Int) (w : World) (hn : -9223372036854775808 ≤ n ∧ n ≤ 9223372036854775807) (hT : StrW w) : Calls Tryz.prog 43 #[.int .i64 n] w fun e w' => e = .returned (sv (Lib.itoa n)) ∧ Below w.heap.size w w' :=
 (Any.strconv_Itoa Tryz.laysM171 n hn.1 hn.2 w hT.pow).mono fun e w' h => by
  obtain ⟨rfl, k, os, rfl⟩ := h
  exact ⟨rfl, rfl, rfl, rfl, by simp, fun b hb => Sort.heap_grow_old _ _ hb⟩
def nilB : Value → Bool
 | .nilIface => true
 | _ => false
theorem Atoi_any (s : List UInt8) (w : World) (hs : s.length ≤ 1000000) (hT : StrW w) : Calls Tryz.prog 179 #[sv s] w fun e w' => ∃ n ev, e = .returned (.tuple #[.int .i64 n, ev]) ∧ (-9223372036854775808 ≤ n ∧ n ≤ 9223372036854775807) ∧ (ev = .nilIface ∨ ∃ te pe, ev = .iface te pe) ∧ (nilB ev = true → Lib.atoiAll s = .ok n) ∧ (nilB ev = false → ∀ v, Lib.atoiAll s ≠ .ok v) ∧ Below w.heap.size w w' := by
 have hz : (⟨s.toArray⟩ : ByteArray).size = s.length := sv_size s
 have hd : (⟨s.toArray⟩ : ByteArray).data.toList = s := sv_data s
 obtain ⟨ev1, c1, e1⟩ := hT.syn
 obtain ⟨ev2, c2, e2⟩ := hT.rng
 cases h : Lib.atoiAll s with
 | ok v =>
  refine (Any.strconv_Atoi_ok Tryz.laysC172 ⟨s.toArray⟩ (by omega) v (by rw [hd]; exact h) w).mono fun e w' h9 => ?_
  obtain ⟨rfl, h9⟩ := h9
  refine ⟨v, .nilIface, rfl, Lib.atoiAll_bounds h, .inl rfl, fun _ => rfl, fun h => (by cases h), ?_⟩
  rcases h9 with rfl | ⟨t, rfl⟩
  ·exact Below.refl _ _
  ·exact ⟨rfl, rfl, rfl, by rw [Lib.bytesWorld_size]; omega, fun k hk => Lib.bytesWorld_at_old w _ _ k hk⟩
 | range =>
  refine (Any.strconv_Atoi_range Tryz.laysC172 ⟨s.toArray⟩ (by omega) (by rw [hd]; exact h) ev2 w c2 e2).mono fun e w' h9 => ?_
  obtain ⟨N, rfl, -, -, hb⟩ := h9
  have hbd := Lib.atoiSat_bounds s
  rw [← hd] at hbd
  exact ⟨_, _, rfl, ⟨by omega, by omega⟩, .inr ⟨_, _, rfl⟩, fun h => (by cases h), fun _ v hv => (by cases hv), hb⟩
 | _ =>
  refine (Any.strconv_Atoi_syntax Tryz.laysC172 ⟨s.toArray⟩ (by omega) (by rw [hd]; exact h) ev1 w c1 e1).mono fun e w' h9 => ?_
  obtain ⟨N, rfl, -, -, hb⟩ := h9
  exact ⟨_, _, rfl, ⟨by omega, by omega⟩, .inr ⟨_, _, rfl⟩, fun h => (by cases h), fun _ v hv => (by cases hv), hb⟩
theorem HasPrefix_any (s p : List UInt8) (w : World) : Calls Tryz.prog 48 #[sv s, sv p] w fun e w' => e = .returned (.bool (p.isPrefixOf s)) ∧ Below w.heap.size w w' :=
 (Any.strings_HasPrefix Tryz.lays99 ⟨s.toArray⟩ ⟨p.toArray⟩ w).mono fun e w' h => by
  obtain ⟨rfl, rfl⟩ := h
  exact ⟨by simp only [sv_data]; rfl, Below.refl _ _⟩
theorem trim_eq (s : List UInt8) : Lib.trimPrefix s [45] = trim45 s := by
 unfold Lib.trimPrefix Lib.hasPrefix
 cases s with
 | nil => rfl
 | cons b r =>
  show (if (((45 : UInt8) == b) && true) = true then _ else _) = (if b = 45 then r else b :: r)
  rw [Bool.and_true]
  by_cases h : b = 45
  ·subst h; rfl
  ·rw [if_neg h, if_neg (by simpa using fun e => h e.symm)]
theorem TrimPrefix_any (s : List UInt8) (w : World) : Calls Tryz.prog 180 #[sv s, sv [45]] w fun e w' => e = .returned (sv (trim45 s)) ∧ Below w.heap.size w w' :=
 (Any.strings_TrimPrefix Tryz.lays101 ⟨s.toArray⟩ ⟨[45].toArray⟩ w).mono fun e w' h => by
  obtain ⟨rfl, rfl⟩ := h
  exact ⟨by rw [sv_data, sv_data, trim_eq], Below.refl _ _⟩
theorem Cut_any (s : List UInt8) (p : List UInt8) (w : World) (hs : s.length ≤ 1000000) (hT : StrW w) : Calls Tryz.prog 118 #[sv s, sv p] w fun e w' => e = .returned (.tuple #[sv (Lib.cut s p).1, sv (Lib.cut s p).2.1, .bool (Lib.cut s p).2.2]) ∧ Below w.heap.size w w' := by
 obtain ⟨m, hm⟩ := hT.ml
 refine (Any.strings_Cut Tryz.lays145 ⟨s.toArray⟩ ⟨p.toArray⟩ m w (by rw [sv_size]; omega) hm).mono fun e w' h => ?_
 obtain ⟨rfl, n, rfl⟩ := h
 exact ⟨by rw [sv_data, sv_data], rfl, rfl, rfl, Nat.le_refl _, fun _ _ => rfl⟩
def SplitPost (l : List (List UInt8)) (w : World) (e : Ending) (w' : World) : Prop := ∃ g, e = .returned (.slice (some ⟨g, 0, none⟩) l.length l.length) ∧ Mem w noEx w' [(g, .cells (st l))]
theorem Split_any (s : List UInt8) (c : UInt8) (w : World) (hs : s.length ≤ 1000000) (hT : StrW w) : Calls Tryz.prog 46 #[sv s, sv [c]] w (SplitPost (spl c s) w) := by
 obtain ⟨m, hm⟩ := hT.ml
 have h1 : 1 ≤ (⟨[c].toArray⟩ : ByteArray).size := by rw [sv_size]; exact Nat.le_refl _
 refine (Any.strings_Split Tryz.lays146 (by kernel_rfl) ⟨s.toArray⟩ ⟨[c].toArray⟩ m w (by rw [sv_size]; omega) hm h1).mono fun e w' h => ?_
 obtain ⟨rfl, rfl⟩ := h
 obtain ⟨bs, hbs⟩ : ∃ bs, bs = Lib.splitB ⟨[c].toArray⟩ 0 (Lib.countB ⟨s.toArray⟩ ⟨[c].toArray⟩) ⟨s.toArray⟩ := ⟨_, rfl⟩
 have hl : bs.length = Lib.countB ⟨s.toArray⟩ ⟨[c].toArray⟩ + 1 := by rw [hbs]; exact Lib.splitB_all _ h1 0 _ _ rfl
 have hd : bs.map (·.data.toList) = spl c s := by
   rw [← split_spl, hbs, Lib.splitB_data]
   rfl
 have hn : (spl c s).length = bs.length := by rw [← hd, List.length_map]
 have hc : bs.map Value.string = st (spl c s) := by
   rw [← hd]
   clear hd hn hl hbs
   induction bs with
   | nil => rfl
   | cons b r ih =>
     show Value.string b :: r.map Value.string = sv b.data.toList :: st (r.map (·.data.toList))
     rw [ih]
 rw [← hbs, hc, ← hl, ← hn]
 exact ⟨_, rfl, (Mem.init w noEx).new _ _⟩
theorem errNil (w : World) : (binOp .eql 133 .nilIface .nilIface).run Tryz.prog w = .ok (.bool true) w := by kernel_rfl
theorem errHeld (w : World) (te : TypeId) (pe : Value) : (binOp .eql 133 (.iface te pe) .nilIface).run Tryz.prog w = .ok (.bool false) w := by kernel_rfl
theorem rn_ifnil {op : Oper} {a : Act} {w : World} {t' : TypeId} {x : Operand} {ev : Value} (ho : op.op = .binOp .eql 133 x (.const .nilIface) t') (hx : a.eval x = ev) (hev : ev = .nilIface ∨ ∃ te pe, ev = .iface te pe) : Runs Tryz.prog op a (.bool (nilB ev)) w := by
 refine rn_bin (u' := .nilIface) ho hx rfl ?_
 rcases hev with rfl | ⟨te, pe, rfl⟩
 ·rw [eqGuard_nil_constR]
  exact errNil w
 ·exact errHeld w te pe
section
open Go.ChangeShapes Go.WideShapes Go.ChangeAt Go.RowKit
def laidT : List (String × DataW Unit) := [("math/bits.deBruijn32tab", Rows.laid_math_bits_deBruijn32tab), ("math/bits.deBruijn64tab", Rows.laid_math_bits_deBruijn64tab), ("internal/strconv.uint64pow10", Rows.laid_internal_strconv_uint64pow10), ("unicode/utf8.acceptRanges", Rows.laid_unicode_utf8_acceptRanges), ("strconv.ErrRange", Rows.laid_strconv_ErrRange), ("strconv.ErrSyntax", Rows.laid_strconv_ErrSyntax), ("unicode/utf8.first", Rows.laid_unicode_utf8_first)]
theorem gPow : Tryz.prog.globalNamed "internal/strconv.uint64pow10" = some 1 := by kernel_rfl
theorem gSyn : Tryz.prog.globalNamed "strconv.ErrSyntax" = some 5 := by kernel_rfl
theorem gRng : Tryz.prog.globalNamed "strconv.ErrRange" = some 6 := by kernel_rfl
theorem g64 : Tryz.prog.globalNamed "math/bits.deBruijn64tab" = some 8 := by kernel_rfl
theorem iface_cell {n nm : String} {d : DataW Unit} {r : List (String × DataW Unit)} {W : World} {g : Nat} {ti : TypeId} {ms : Array (String × TypeId)} (h : laidMet Tryz.prog ((n, .iface nm d) :: r) W) (hg : Tryz.prog.globalNamed n = some g) (ht : (Tryz.prog.globals[g]?).map (·.type) = some ti) (hi : Tryz.prog.underlying ti = some (.interface ms)) :
   ∃ ev, W.cell? ⟨g, 0, none⟩ = some ev ∧ (ev = .nilIface ∨ ∃ te pe, ev = .iface te pe) := by
 obtain ⟨ps, ⟨g0, t0, cs0, f0, p0, q0, hg0, ht0, hv0, hd0, _, e0⟩, _, hrows⟩ := h
 obtain rfl := Option.some.inj (hg.symm.trans hg0)
 obtain rfl := Option.some.inj (ht.symm.trans ht0)
 obtain ⟨f1, u, v, hc, hn, h1⟩ := iface_of_trod hi hd0
 refine ⟨.iface u v, ?_, .inr ⟨u, v, rfl⟩⟩
 have := World.var?_cell hg0 hv0 0
 rw [this]
 have h2 := congrArg List.head? hc
 obtain ⟨l0⟩ := cs0
 rw [List.head?_eq_getElem?] at h2
 simpa using h2
theorem some_cell {n : String} {d : DataW Unit} {r : List (String × DataW Unit)} {W : World} {g : Nat} (h : laidMet Tryz.prog ((n, d) :: r) W) (hg : Tryz.prog.globalNamed n = some g) : g < W.heap.size := by
 obtain ⟨ps, ⟨g0, t0, cs0, f0, p0, q0, hg0, ht0, hv0, hd0, _, e0⟩, _, hrows⟩ := h
 obtain rfl := Option.some.inj (hg.symm.trans hg0)
 unfold World.var? at hv0
 rw [hg] at hv0
 simp only [Option.bind_some] at hv0
 rcases Nat.lt_or_ge g W.heap.size with h9 | h9
 ·exact h9
 ·rw [Array.getElem?_eq_none h9] at hv0
  cases hv0
theorem of_laidT {W : World} (h : laidMetH Tryz.prog laidT W) (hs : W.ShapedOpen Tryz.prog) : StrW W := by
 rw [MakeChecks.laidMetH_plain _ _ _ (by kernel_rfl)] at h
 have h1 : laidMet Tryz.prog (("math/bits.deBruijn64tab", Rows.laid_math_bits_deBruijn64tab) :: _) W := h.tail
 have h2 : laidMet Tryz.prog (("internal/strconv.uint64pow10", Lib.tabData .u64 Lib.pow10Tab) :: _) W := h1.tail
 have h3 := h2.tail.tail
 have h4 := h3.tail
 refine ⟨Lib.tabIs_of_head gPow (t := 334) (e := 84) (n := 20) (by kernel_rfl) (by kernel_rfl) (by kernel_rfl) (by kernel_rfl) (by kernel_rfl) h2, ?_, iface_cell h4 gSyn (ti := 133) (by kernel_rfl) Tryz.underlying133, iface_cell h3 gRng (ti := 133) (by kernel_rfl) Tryz.underlying133, some_cell h1 g64⟩
 exact cell_of_shapedOpen_int (t := 3) (zero := #[.int .i64 0]) hs (of_decide_eq_true (by kernel_rfl)) (by kernel_rfl) rfl (by kernel_rfl) (by kernel_rfl) Tryz.underlying3
section
variable {H : Type} {enc : TypeId × Value → H} {W : World}
theorem read_str {v : Value} {d : DataW H} {ps : List MemPlace} {b0 : Nat} (hv : Value.okWide Tryz.prog W .any b0 9 v) (h : DataW.Trod enc Tryz.prog W 0 (fun _ => true) true 9 v d ps) : ∃ l : List UInt8, v = sv l := by
 obtain ⟨fuel, hf⟩ := h
 obtain ⟨s, hs, -, -⟩ := DataW.trod_string Tryz.underlying9 hf
 unfold Value.okWide at hv
 simp only [Tryz.underlying9] at hv
 unfold Cell.okWide at hv
 cases v <;> simp [Value.cells, Cell.ok, Tryz.underlying9] at hv hs
 rename_i a
 exact ⟨a.data.toList, rfl⟩
theorem returnsT {a : Assume} {C : Checked} {os : Os} {f : FuncId} {fn : Func} {s : ChangeSpec} {conds : List PathCond} {apart fresh handsOn again : Bool} {X : World → Array Value → Prop}
  (hX : ∀ (w w' : World) (args : Array Value), w.heap = w'.heap → X w args → X w' args)
  (own : ownKnob C.prog.godebug = none) (started : os.Started) (noInit : C.prog.inits.idxOf? f = none) (hfn : C.prog.funcs[f]? = some fn)
  (witness : ∃ (w : World) (tape : Tape) (i : Input), w.os = os ∧ (w.forCall tape i).Shaped C.prog ∧ i.vars = [] ∧ Input.okWide C.prog (w.forCall tape i) .any w.heap.size f i ∧
   ((s.pre enc C.prog fn conds apart (w.forCall tape i).memory i.args ∧ X (w.forCall tape i).memory i.args) ∧ sizedMet enc C.prog fn (OpenSpec.ofChange s) apart (w.forCall tape i).memory i.args) ∧ a.holds C.prog (lone (Frame.enter C.prog f i.args .normal) [] (w.forCall tape i)))
  (contract : ∀ (W : World) (base : Nat) (args : Array Value) (ds gs : List (DataW H)) (before : List MemPlace),
   (∀ (j : Nat) t v, fn.params[j]? = some t → args[j]? = some v → Value.okWide C.prog W .any base t v) →
   DataW.Whole enc C.prog fn.params.toList s.vars apart W args.toList ds gs before →
   X W args → W.ShapedOpen C.prog →
   Calls C.prog f args W fun e W' => ∃ v, e = .returned v ∧ s.post enc C.prog fn apart fresh handsOn again W args v W') :
  ReturnsInHanded a C os f .any (fun w args => (s.pre enc C.prog fn conds apart w args ∧ X w args) ∧ sizedMet enc C.prog fn (OpenSpec.ofChange s) apart w args) (s.post enc C.prog fn apart fresh handsOn again) := by
 refine returnsInHanded_of_calls own started noInit witness ?_
 intro w tape i _ hsh _ hok hpre hholds
 obtain ⟨_, _, _, fn', hfn', _, _, _, _, hval⟩ := hok
 have e : fn' = fn := Option.some.inj (hfn'.symm.trans hfn)
 subst e
 obtain ⟨⟨⟨ds, gs, before, hw, hc⟩, hx⟩, hz⟩ := hpre
 have hw' := DataW.Whole.of_heap (w' := w.forCall tape i) (by rfl) hw
 refine (contract (w.forCall tape i) w.heap.size i.args ds gs before hval hw' (hX _ _ _ (by rfl) hx) hsh).mono fun e W' ⟨v, he, hp⟩ => ?_
 subst he
 exact ChangeSpec.post_blind hp
end
theorem start_shT (os : Os) (args : Array Value) : ((World.laidAll Tryz.prog os laidT).forCall (fun _ _ => 0) ⟨#[], args, []⟩).Shaped Tryz.prog := World.shaped_of_ZipB (by kernel_rfl) (by kernel_rfl)
theorem start_metT (os : Os) (args : Array Value) : laidMetH Tryz.prog laidT ((World.laidAll Tryz.prog os laidT).forCall (fun _ _ => 0) ⟨#[], args, []⟩).memory := by
 rw [MakeChecks.laidMetH_plain _ _ _ (by kernel_rfl)]
 exact laidMet_laidAll _ (by kernel_rfl) (by kernel_rfl)
end
section
open Go Go.Lib
theorem spl_pos (c : UInt8) (s : List UInt8) : 0 < (spl c s).length := by
 have := spl_ne c s
 cases h : spl c s with
 | nil => exact absurd h this
 | cons x l => simp
end
section
open Go Go.Lib
structure Kd where
 word : List UInt8
 rg : Nat
 nm : Nat
inductive RdE where
 | bad (row : Nat)
 | ok (done : Bool) (l : List (Nat × List Int))
def RdE.cons (x : Nat × List Int) : RdE → RdE
 | .bad n => .bad n
 | .ok d l => .ok d (x :: l)
section
variable (K0 K1 K2 K3 : Kd)
end
section
variable {K0 K1 K2 K3 : Kd}
end
end
section
open Go Go.Lib
def joinC (c : UInt8) : List (List UInt8) → List UInt8
 | [] => []
 | [x] => x
 | x :: y :: l => x ++ c :: joinC c (y :: l)
theorem joinC_cons {c : UInt8} {x : List UInt8} {l : List (List UInt8)} (h : l ≠ []) : joinC c (x :: l) = x ++ c :: joinC c l := by
 cases l with
 | nil => exact absurd rfl h
 | cons y l => rfl
theorem spl_join (c : UInt8) : ∀ s, joinC c (spl c s) = s
 | [] => rfl
 | b :: r => by
   have ih := spl_join c r
   unfold spl
   split
   · rename_i h
     rw [joinC_cons (spl_ne c r), ih, h]; rfl
   · cases h : spl c r with
     | nil => exact absurd h (spl_ne c r)
     | cons x l =>
       rw [h] at ih
       dsimp only
       cases l with
       | nil => exact congrArg (b :: ·) ih
       | cons y l => exact congrArg (b :: ·) ih
theorem spl_none {c : UInt8} {s : List UInt8} (h : c ∉ s) : spl c s = [s] := by
 rcases cut_spl c s with ⟨-, -, e⟩ | ⟨a, r, -, rfl, -, -⟩
 · exact e
 · exact absurd (by simp) h
theorem spl_app {c : UInt8} {a r : List UInt8} (h : c ∉ a) : spl c (a ++ c :: r) = a :: spl c r := by
 induction a with
 | nil => show spl c (c :: r) = _; rw [spl, if_pos rfl]
 | cons b a ih =>
  rw [List.mem_cons, not_or] at h
  show spl c (b :: (a ++ c :: r)) = _
  rw [spl, if_neg (fun e => h.1 e.symm), ih h.2]
theorem join_spl {c : UInt8} : ∀ {l : List (List UInt8)}, l ≠ [] → (∀ x ∈ l, c ∉ x) → spl c (joinC c l) = l
 | [], h, _ => absurd rfl h
 | [x], _, h => spl_none (h x Zz2)
 | x :: y :: l, _, h => by
  rw [joinC_cons (by simp), spl_app (h x Zz2), join_spl (by simp) fun z hz => h z (Zz1 hz)]
abbrev sm (v : Int) : Prop := -999 ≤ v ∧ v ≤ 999
theorem numP_it {v : Int} (h : sm v) : numP (it3 v) = some v := numP_iff.2 ⟨h, rfl⟩
theorem fin_free : ∀ u : Fin 1000, (58 : UInt8) ∉ dd3 u.val ∧ (32 : UInt8) ∉ dd3 u.val ∧ (10 : UInt8) ∉ dd3 u.val := by decide +kernel
theorem it3_free {v : Int} (h : sm v) : (58 : UInt8) ∉ it3 v ∧ (32 : UInt8) ∉ it3 v ∧ (10 : UInt8) ∉ it3 v := by
 unfold it3
 split
 ·have := fin_free ⟨v.natAbs, by omega⟩
  simp only [List.mem_cons, not_or]
  exact ⟨⟨by decide, this.1⟩, ⟨by decide, this.2.1⟩, by decide, this.2.2⟩
 ·exact fin_free ⟨v.toNat, by omega⟩
end
section
open Go Go.Lib
def cut2 : List UInt8 → Option (List UInt8 × List UInt8)
 | [] => none
 | [_] => none
 | b :: d :: q => if b = 46 ∧ d = 46 then some ([], q) else (cut2 (d :: q)).map fun x => (b :: x.1, x.2)
theorem pre2 {b d : UInt8} {q : List UInt8} : ([46, 46] : List UInt8).isPrefixOf (b :: d :: q) = true ↔ b = 46 ∧ d = 46 := by
 simp only [List.isPrefixOf, Bool.and_eq_true, beq_iff_eq, and_true]
 exact ⟨fun h => ⟨h.1.symm, h.2.symm⟩, fun h => ⟨h.1.symm, h.2.symm⟩⟩
theorem index_no {sub r : List UInt8} {b : UInt8} (h : ¬ sub.isPrefixOf (b :: r) = true) : index (b :: r) sub = if index r sub = -1 then -1 else index r sub + 1 := by
 rw [index, if_neg h]
 by_cases h1 : index r sub = -1
 · rw [if_pos (beq_iff_eq.2 h1), if_pos h1]
 · rw [if_neg (fun e => h1 (beq_iff_eq.1 e)), if_neg h1]
theorem index_two : ∀ p : List UInt8, index p [46, 46] = match cut2 p with
  | some x => (x.1.length : Int)
  | none => -1
 | [] => by rfl
 | [b] => by
  rw [index_no (by simp [List.isPrefixOf])]
  rfl
 | b :: d :: q => by
  have ih := index_two (d :: q)
  unfold cut2
  by_cases h : b = 46 ∧ d = 46
  ·rw [if_pos h, index, if_pos (pre2.2 h)]
   rfl
  ·rw [if_neg h, index_no (fun e => h (pre2.1 e)), ih]
   cases cut2 (d :: q) with
   | none => rfl
   | some x =>
    show (if ((x.1.length : Int) = -1) then (-1 : Int) else (x.1.length : Int) + 1) = ((b :: x.1).length : Int)
    rw [if_neg (by omega), List.length_cons]
    omega
theorem cut2_spec : ∀ {p a z : List UInt8}, cut2 p = some (a, z) → p = a ++ 46 :: 46 :: z
 | [], a, z, h => by cases h
 | [b], a, z, h => by cases h
 | b :: d :: q, a, z, h => by
  unfold cut2 at h
  split at h
  ·rename_i hc
   injection h with h
   injection h with h1 h2
   subst h1 h2
   rw [hc.1, hc.2]
   rfl
  ·obtain ⟨x, hx, e⟩ := Option.map_eq_some_iff.1 h
   injection e with e1 e2
   subst e1 e2
   have := cut2_spec (a := x.1) (z := x.2) hx
   rw [this]
   rfl
theorem cut_two (p : List UInt8) : cut p [46, 46] = match cut2 p with
  | some x => (x.1, x.2, true)
  | none => (p, [], false) := by
 unfold cut
 rw [index_two]
 cases h : cut2 p with
 | none => rfl
 | some x =>
  obtain ⟨a, z⟩ := x
  have hp := cut2_spec h
  dsimp only
  rw [if_pos (Int.natCast_nonneg _)]
  have e1 : ((a.length : Nat) : Int).toNat = a.length := Int.toNat_natCast _
  rw [e1, hp]
  simp
theorem cut2_app : ∀ {a r : List UInt8}, 46 ∉ a → cut2 (a ++ 46 :: 46 :: r) = some (a, r)
 | [], r, _ => by
  show cut2 (46 :: 46 :: r) = _
  unfold cut2
  rw [if_pos ⟨rfl, rfl⟩]
 | [b], r, h => by
  have hb : b ≠ 46 := fun e => h (by rw [e]; simp)
  show cut2 (b :: 46 :: 46 :: r) = _
  unfold cut2
  rw [if_neg (fun e => hb e.1), show cut2 (46 :: 46 :: r) = some ([], r) from cut2_app (a := []) (by simp)]
  rfl
 | b :: d :: a, r, h => by
  have hb : b ≠ 46 := fun e => h (by rw [e]; simp)
  have ih := cut2_app (a := d :: a) (r := r) (fun e => h (Zz1 e))
  show cut2 (b :: d :: (a ++ 46 :: 46 :: r)) = _
  unfold cut2
  rw [if_neg (fun e => hb e.1), show cut2 (d :: (a ++ 46 :: 46 :: r)) = some (d :: a, r) from ih]
  rfl
def rangeQ (p : List UInt8) : Option (List Int) := match cut2 p with
 | some x => (match numP x.1, numP x.2 with
  | some a, some b => some [a, b]
  | _, _ => none)
 | none => none
def wordQ (rg : Bool) (p : List UInt8) : Option (List Int) := if rg = true then rangeQ p else (numP p).map ([·])
theorem fin_free2 : ∀ u : Fin 1000, (46 : UInt8) ∉ dd3 u.val ∧ (44 : UInt8) ∉ dd3 u.val := by decide +kernel
theorem it3_free2 {v : Int} (h : sm v) : (46 : UInt8) ∉ it3 v ∧ (44 : UInt8) ∉ it3 v := by
 unfold it3
 split
 ·have := fin_free2 ⟨v.natAbs, by omega⟩
  simp only [List.mem_cons, not_or]
  exact ⟨⟨by decide, this.1⟩, by decide, this.2⟩
 ·exact fin_free2 ⟨v.toNat, by omega⟩
theorem wordQ_one {p : List UInt8} {x : List Int} : wordQ false p = some x ↔ ∃ a, sm a ∧ x = [a] ∧ p = it3 a := by
 unfold wordQ
 rw [if_neg (by decide)]
 constructor
 ·intro h
  obtain ⟨a, ha, rfl⟩ := Option.map_eq_some_iff.1 h
  obtain ⟨hb, e⟩ := numP_iff.1 ha
  exact ⟨a, hb, rfl, e⟩
 ·rintro ⟨a, ha, rfl, rfl⟩
  rw [numP_it ha]; rfl
theorem wordQ_two {p : List UInt8} {x : List Int} : wordQ true p = some x ↔ ∃ a b, sm a ∧ sm b ∧ x = [a, b] ∧ p = it3 a ++ 46 :: 46 :: it3 b := by
 unfold wordQ rangeQ
 rw [if_pos rfl]
 constructor
 ·intro h
  cases hc : cut2 p with
  | none => rw [hc] at h; cases h
  | some y =>
   obtain ⟨y1, y2⟩ := y
   rw [hc] at h
   dsimp only at h
   cases h1 : numP y1 with
   | none => rw [h1] at h; cases h
   | some a =>
    cases h2 : numP y2 with
    | none => rw [h1, h2] at h; cases h
    | some b =>
     rw [h1, h2] at h
     injection h with h
     obtain ⟨k1, e1⟩ := numP_iff.1 h1
     obtain ⟨k2, e2⟩ := numP_iff.1 h2
     exact ⟨a, b, k1, k2, h.symm, by rw [cut2_spec hc, e1, e2]⟩
 ·rintro ⟨a, b, ha, hb, rfl, rfl⟩
  rw [cut2_app (it3_free2 ha).1]
  dsimp only
  rw [numP_it ha, numP_it hb]
def valsQ : List Bool → List (List UInt8) → Option (List Int)
 | [], [] => some []
 | f :: fs, p :: ws => match wordQ f p, valsQ fs ws with
  | some a, some r => some (a ++ r)
  | _, _ => none
 | _, _ => none
def lenF : List Bool → Nat
 | [] => 0
 | true :: fs => lenF fs + 2
 | false :: fs => lenF fs + 1
def vt : List Bool → List Int → List (List UInt8)
 | true :: fs, a :: b :: xs => (it3 a ++ 46 :: 46 :: it3 b) :: vt fs xs
 | false :: fs, a :: xs => it3 a :: vt fs xs
 | _, _ => []
theorem valsQ_iff : ∀ {fm : List Bool} {ws : List (List UInt8)} {xs : List Int}, valsQ fm ws = some xs ↔ xs.length = lenF fm ∧ (∀ v ∈ xs, sm v) ∧ ws = vt fm xs
 | [], [], xs => by
  constructor
  ·intro h; cases h; exact ⟨rfl, fun v hv => (by cases hv), rfl⟩
  ·rintro ⟨h, -, -⟩
   rw [List.length_eq_zero_iff.1 h]; rfl
 | [], p :: ws, xs => by
  constructor
  ·intro h; cases h
  ·rintro ⟨h, -, h3⟩
   cases xs <;> cases h3
 | f :: fs, [], xs => by
  constructor
  ·intro h; cases f <;> cases h
  ·rintro ⟨h, -, h3⟩
   cases f with
   | false =>
    match xs, h with
    | a :: r, _ => cases h3
   | true =>
    match xs, h with
    | [a], h => simp only [lenF, List.length_cons, List.length_nil] at h; omega
    | a :: b :: r, _ => cases h3
 | false :: fs, p :: ws, xs => by
  have ih := fun ys => valsQ_iff (fm := fs) (ws := ws) (xs := ys)
  constructor
  ·intro h
   unfold valsQ at h
   split at h
   ·rename_i a r h1 h2
    injection h with h
    subst h
    obtain ⟨v, hv, rfl, rfl⟩ := wordQ_one.1 h1
    obtain ⟨k1, k2, rfl⟩ := (ih r).1 h2
    refine ⟨by simp only [List.length_append, List.length_cons, List.length_nil, lenF]; omega, fun u hu => ?_, rfl⟩
    rcases List.mem_cons.1 hu with rfl | hu
    ·exact hv
    ·exact k2 u hu
   ·cases h
  ·rintro ⟨h1, h2, h3⟩
   match xs, h1 with
   | a :: r, h1 =>
    injection h3 with e1 e2
    unfold valsQ
    rw [wordQ_one.2 ⟨a, h2 a Zz2, rfl, e1⟩, (ih r).2 ⟨by simp only [lenF, List.length_cons] at h1; omega, fun v hv => h2 v (Zz1 hv), e2⟩]
    rfl
 | true :: fs, p :: ws, xs => by
  have ih := fun ys => valsQ_iff (fm := fs) (ws := ws) (xs := ys)
  constructor
  ·intro h
   unfold valsQ at h
   split at h
   ·rename_i a r h1 h2
    injection h with h
    subst h
    obtain ⟨v, u, hv, hu, rfl, rfl⟩ := wordQ_two.1 h1
    obtain ⟨k1, k2, rfl⟩ := (ih r).1 h2
    refine ⟨by simp only [List.length_append, List.length_cons, List.length_nil, lenF]; omega, fun y hy => ?_, rfl⟩
    rcases List.mem_cons.1 hy with rfl | hy
    ·exact hv
    ·rcases List.mem_cons.1 hy with rfl | hy
     ·exact hu
     ·exact k2 y hy
   ·cases h
  ·rintro ⟨h1, h2, h3⟩
   match xs, h1 with
   | [a], h1 => simp only [lenF, List.length_cons, List.length_nil] at h1; omega
   | a :: b :: r, h1 =>
    injection h3 with e1 e2
    unfold valsQ
    rw [wordQ_two.2 ⟨a, b, h2 a (by simp), h2 b (by simp), rfl, e1⟩, (ih r).2 ⟨by simp only [lenF, List.length_cons] at h1; omega, fun v hv => h2 v (Zz1 (Zz1 hv)), e2⟩]
    rfl
theorem vt_free {c : UInt8} (hc : c = 44 ∨ c = 10) : ∀ (fm : List Bool) (xs : List Int), (∀ v ∈ xs, sm v) → ∀ s ∈ vt fm xs, c ∉ s
 | [], xs, _, s, hs => by cases xs <;> cases hs
 | false :: fs, [], _, s, hs => by cases hs
 | true :: fs, [], _, s, hs => by cases hs
 | true :: fs, [a], _, s, hs => by cases hs
 | false :: fs, a :: r, h, s, hs => by
  have ha := h a Zz2
  rcases List.mem_cons.1 hs with rfl | hs
  ·rcases hc with rfl | rfl
   ·exact (it3_free2 ha).2
   ·exact (it3_free ha).2.2
  ·exact vt_free hc fs r (fun v hv => h v (Zz1 hv)) s hs
 | true :: fs, a :: b :: r, h, s, hs => by
  have ha := h a (by simp)
  have hb := h b (by simp)
  rcases List.mem_cons.1 hs with rfl | hs
  ·simp only [List.mem_append, List.mem_cons, not_or]
   rcases hc with rfl | rfl
   ·exact ⟨(it3_free2 ha).2, by decide, by decide, (it3_free2 hb).2⟩
   ·exact ⟨(it3_free ha).2.2, by decide, by decide, (it3_free hb).2.2⟩
  ·exact vt_free hc fs r (fun v hv => h v (Zz1 (Zz1 hv))) s hs
structure Kv where
 word : List UInt8
 form : List Bool
def Kv.rd (k : Kv) (s : List UInt8) : Option (List Int) := match spl 44 s with
 | [] => none
 | w :: ws => if w = k.word then valsQ k.form ws else none
theorem rdv_iff {k : Kv} (hw : (44 : UInt8) ∉ k.word) {s : List UInt8} {xs : List Int} : k.rd s = some xs ↔ s = joinC 44 (k.word :: vt k.form xs) ∧ xs.length = lenF k.form ∧ ∀ v ∈ xs, sm v := by
 unfold Kv.rd
 constructor
 ·intro h
  cases hs : spl 44 s with
  | nil => exact absurd hs (spl_ne 44 s)
  | cons w ws =>
   rw [hs] at h
   dsimp only at h
   split at h
   ·rename_i hc
    obtain ⟨h1, h2, h3⟩ := valsQ_iff.1 h
    refine ⟨?_, h1, h2⟩
    rw [← hc, ← h3, ← hs, spl_join]
   ·cases h
 ·rintro ⟨rfl, h1, h2⟩
  rw [join_spl (by simp) fun x hx => by
   rcases List.mem_cons.1 hx with rfl | hx
   ·exact hw
   ·exact vt_free (.inl rfl) _ _ h2 x hx]
  dsimp only
  rw [if_pos rfl]
  exact valsQ_iff.2 ⟨h1, h2, rfl⟩
def preV (k : Kv) (s : List UInt8) : Bool := (k.word ++ [44]).isPrefixOf s
theorem rdv_pre {k : Kv} (hf : k.form ≠ []) {s : List UInt8} {x : List Int} (h : k.rd s = some x) : preV k s = true := by
 unfold Kv.rd at h
 unfold preV
 rw [List.isPrefixOf_iff_prefix]
 rcases cut_spl 44 s with ⟨-, -, e⟩ | ⟨a, r, -, rfl, -, e⟩
 ·rw [e] at h
  dsimp only at h
  split at h
  ·cases hk : k.form with
   | nil => exact absurd hk hf
   | cons f fs => rw [hk] at h; cases f <;> cases h
  ·cases h
 ·rw [e] at h
  dsimp only at h
  split at h
  ·rename_i hc
   exact ⟨r, by rw [hc]; simp⟩
  ·cases h
section
variable (KL KA KB KF : Kv)
def kvAt : Nat → Kv
 | 0 => KL
 | 1 => KA
 | 2 => KB
 | _ => KF
def nxV (at' : Nat) (s : List UInt8) : Nat := if at' = 1 then (if preV KA s = true then 1 else if preV KB s = true then 2 else 3) else if at' = 2 then (if preV KB s = true then 2 else 3) else at'
def progV : Nat → Nat → List (List UInt8) → RdE
 | at', _, [] => .ok (decide (4 ≤ at')) []
 | at', i, s :: ls =>
  if 4 ≤ nxV KA KB at' s then .bad (i + 1)
  else match (kvAt KL KA KB KF (nxV KA KB at' s)).rd s with
   | none => .bad (i + 1)
   | some x => (progV (if nxV KA KB at' s = 0 ∨ nxV KA KB at' s = 3 then nxV KA KB at' s + 1 else nxV KA KB at' s) (i + 1) ls).cons (nxV KA KB at' s, x)
def lineR (s : List UInt8) : Option (Nat × List Int) := match spl 44 s with
 | [] => none
 | w :: ws => if w = KL.word then (valsQ KL.form ws).map (0, ·) else if w = KA.word then (valsQ KA.form ws).map (1, ·) else if w = KB.word then (valsQ KB.form ws).map (2, ·) else if w = KF.word then (valsQ KF.form ws).map (3, ·) else none
def refV : Int → Nat → List (List UInt8) → RdE
 | bf, _, [] => .ok (decide (bf = 3)) []
 | bf, i, s :: ls => match lineR KL KA KB KF s with
  | none => .bad (i + 1)
  | some x => if (x.1 : Int) < bf ∨ bf = 3 ∨ (decide (x.1 = 0) ≠ decide (i = 0)) then .bad (i + 1) else (refV x.1 (i + 1) ls).cons x
structure KOk : Prop where
 ne : KL.form ≠ [] ∧ KA.form ≠ [] ∧ KB.form ≠ [] ∧ KF.form ≠ []
 d01 : KL.word ≠ KA.word
 d02 : KL.word ≠ KB.word
 d03 : KL.word ≠ KF.word
 d12 : KA.word ≠ KB.word
 d13 : KA.word ≠ KF.word
 d23 : KB.word ≠ KF.word
 free : (44 : UInt8) ∉ KL.word ∧ (44 : UInt8) ∉ KA.word ∧ (44 : UInt8) ∉ KB.word ∧ (44 : UInt8) ∉ KF.word
end
section
variable {KL KA KB KF : Kv}
theorem pre_word {k : Kv} (hk : (44 : UInt8) ∉ k.word) {s : List UInt8} (h : preV k s = true) : ∃ ws, spl 44 s = k.word :: ws := by
 unfold preV at h
 rw [List.isPrefixOf_iff_prefix] at h
 obtain ⟨r, rfl⟩ := h
 rw [List.append_assoc]
 show ∃ ws, spl 44 (k.word ++ 44 :: r) = _
 exact ⟨_, spl_app hk⟩
theorem lineR_iff (H : KOk KL KA KB KF) {s : List UInt8} {k : Nat} {x : List Int} : lineR KL KA KB KF s = some (k, x) ↔ k ≤ 3 ∧ (kvAt KL KA KB KF k).rd s = some x := by
 unfold lineR
 have key : ∀ j, (kvAt KL KA KB KF j).rd s = match spl 44 s with
  | [] => none
  | w :: ws => if w = (kvAt KL KA KB KF j).word then valsQ (kvAt KL KA KB KF j).form ws else none := fun j => rfl
 cases hs : spl 44 s with
 | nil => exact absurd hs (spl_ne 44 s)
 | cons w ws =>
  have key2 : ∀ j, (kvAt KL KA KB KF j).rd s = if w = (kvAt KL KA KB KF j).word then valsQ (kvAt KL KA KB KF j).form ws else none := fun j => by rw [key j, hs]
  rw [key2 k]
  dsimp only
  have mk : ∀ (o : Option (List Int)) (j : Nat), o.map (fun q => (j, q)) = some (k, x) ↔ k = j ∧ o = some x := by
   intro o j
   cases o with
   | none => exact ⟨fun h => (by cases h), fun h => (by cases h.2)⟩
   | some y =>
    constructor
    ·intro h
     injection h with h
     injection h with h1 h2
     exact ⟨h1.symm, by rw [h2]⟩
    ·rintro ⟨rfl, h⟩
     injection h with h
     rw [h]; rfl
  have k4 : ∀ {p : Prop}, (k ≤ 3 → p) → k ≤ 3 → p := fun h => h
  by_cases h0 : w = KL.word
  ·subst h0
   rw [if_pos rfl, mk]
   constructor
   ·rintro ⟨rfl, h⟩
    exact ⟨by omega, by rw [if_pos (show KL.word = (kvAt KL KA KB KF 0).word from rfl)]; exact h⟩
   ·rintro ⟨h3, h⟩
    split at h
    ·rename_i hc
     match k, h3, hc with
     | 0, _, _ => exact ⟨rfl, h⟩
     | 1, _, hc => exact absurd hc H.d01
     | 2, _, hc => exact absurd hc H.d02
     | 3, _, hc => exact absurd hc H.d03
    ·cases h
  ·rw [if_neg h0]
   by_cases h1 : w = KA.word
   ·subst h1
    rw [if_pos rfl, mk]
    constructor
    ·rintro ⟨rfl, h⟩
     exact ⟨by omega, by rw [if_pos (show KA.word = (kvAt KL KA KB KF 1).word from rfl)]; exact h⟩
    ·rintro ⟨h3, h⟩
     split at h
     ·rename_i hc
      match k, h3, hc with
      | 0, _, hc => exact absurd hc.symm H.d01
      | 1, _, _ => exact ⟨rfl, h⟩
      | 2, _, hc => exact absurd hc H.d12
      | 3, _, hc => exact absurd hc H.d13
     ·cases h
   ·rw [if_neg h1]
    by_cases h2 : w = KB.word
    ·subst h2
     rw [if_pos rfl, mk]
     constructor
     ·rintro ⟨rfl, h⟩
      exact ⟨by omega, by rw [if_pos (show KB.word = (kvAt KL KA KB KF 2).word from rfl)]; exact h⟩
     ·rintro ⟨h3, h⟩
      split at h
      ·rename_i hc
       match k, h3, hc with
       | 0, _, hc => exact absurd hc.symm H.d02
       | 1, _, hc => exact absurd hc.symm H.d12
       | 2, _, _ => exact ⟨rfl, h⟩
       | 3, _, hc => exact absurd hc H.d23
      ·cases h
    ·rw [if_neg h2]
     by_cases h3 : w = KF.word
     ·subst h3
      rw [if_pos rfl, mk]
      constructor
      ·rintro ⟨rfl, h⟩
       exact ⟨by omega, by rw [if_pos (show KF.word = (kvAt KL KA KB KF 3).word from rfl)]; exact h⟩
      ·rintro ⟨h3, h⟩
       split at h
       ·rename_i hc
        match k, h3, hc with
        | 0, _, hc => exact absurd hc.symm H.d03
        | 1, _, hc => exact absurd hc.symm H.d13
        | 2, _, hc => exact absurd hc.symm H.d23
        | 3, _, _ => exact ⟨rfl, h⟩
       ·cases h
     ·rw [if_neg h3]
      constructor
      ·intro h; cases h
      ·rintro ⟨h4, h⟩
       split at h
       ·rename_i hc
        match k, h4, hc with
        | 0, _, hc => exact absurd hc h0
        | 1, _, hc => exact absurd hc h1
        | 2, _, hc => exact absurd hc h2
        | 3, _, hc => exact absurd hc h3
       ·cases h
theorem lineR_pre (H : KOk KL KA KB KF) {s : List UInt8} {k : Nat} {x : List Int} (h : lineR KL KA KB KF s = some (k, x)) : k ≤ 3 ∧ preV (kvAt KL KA KB KF k) s = true := by
 obtain ⟨h1, h2⟩ := (lineR_iff H).1 h
 refine ⟨h1, rdv_pre ?_ h2⟩
 match k, h1 with
 | 0, _ => exact H.ne.1
 | 1, _ => exact H.ne.2.1
 | 2, _ => exact H.ne.2.2.1
 | 3, _ => exact H.ne.2.2.2
theorem kv_free (H : KOk KL KA KB KF) : ∀ k, (44 : UInt8) ∉ (kvAt KL KA KB KF k).word
 | 0 => H.free.1
 | 1 => H.free.2.1
 | 2 => H.free.2.2.1
 | _ + 3 => H.free.2.2.2
theorem pre_one (H : KOk KL KA KB KF) {s : List UInt8} {j k : Nat} (hj : j ≤ 3) (hk : k ≤ 3) (h1 : preV (kvAt KL KA KB KF j) s = true) (h2 : preV (kvAt KL KA KB KF k) s = true) : j = k := by
 obtain ⟨a, ha⟩ := pre_word (kv_free H j) h1
 obtain ⟨b, hb⟩ := pre_word (kv_free H k) h2
 rw [ha] at hb
 injection hb with hb
 match j, hj, k, hk, hb with
 | 0, _, 0, _, _ => rfl
 | 1, _, 1, _, _ => rfl
 | 2, _, 2, _, _ => rfl
 | 3, _, 3, _, _ => rfl
 | 0, _, 1, _, hb => exact absurd hb H.d01
 | 0, _, 2, _, hb => exact absurd hb H.d02
 | 0, _, 3, _, hb => exact absurd hb H.d03
 | 1, _, 0, _, hb => exact absurd hb.symm H.d01
 | 1, _, 2, _, hb => exact absurd hb H.d12
 | 1, _, 3, _, hb => exact absurd hb H.d13
 | 2, _, 0, _, hb => exact absurd hb.symm H.d02
 | 2, _, 1, _, hb => exact absurd hb.symm H.d12
 | 2, _, 3, _, hb => exact absurd hb H.d23
 | 3, _, 0, _, hb => exact absurd hb.symm H.d03
 | 3, _, 1, _, hb => exact absurd hb.symm H.d13
 | 3, _, 2, _, hb => exact absurd hb.symm H.d23
theorem step_same (H : KOk KL KA KB KF) {s : List UInt8} {k : Nat} {bf : Int} {i a' : Nat} {ls : List (List UInt8)} (hk : k ≤ 3)
  (hin : ¬ ((k : Int) < bf ∨ bf = 3 ∨ (decide (k = 0) ≠ decide (i = 0))))
  (hout : ∀ j, j ≤ 3 → j ≠ k → preV (kvAt KL KA KB KF j) s = true → (j : Int) < bf ∨ bf = 3 ∨ (decide (j = 0) ≠ decide (i = 0)))
  (ih : progV KL KA KB KF a' (i + 1) ls = refV KL KA KB KF (k : Int) (i + 1) ls) :
  (match (kvAt KL KA KB KF k).rd s with | none => RdE.bad (i + 1) | some x => (progV KL KA KB KF a' (i + 1) ls).cons (k, x)) = refV KL KA KB KF bf i (s :: ls) := by
 rw [refV]
 cases h : (kvAt KL KA KB KF k).rd s with
 | some x =>
  rw [(lineR_iff H).2 ⟨hk, h⟩]
  dsimp only
  rw [if_neg hin, ih]
 | none =>
  cases h2 : lineR KL KA KB KF s with
  | none => rfl
  | some y =>
   obtain ⟨j, y⟩ := y
   obtain ⟨h3, h4⟩ := lineR_pre H h2
   dsimp only
   rw [if_pos]
   refine hout j h3 (fun e => ?_) h4
   subst e
   rw [((lineR_iff H).1 h2).2] at h
   cases h
theorem readV_same (H : KOk KL KA KB KF) : ∀ (ls : List (List UInt8)) (i : Nat),
  (i = 0 → progV KL KA KB KF 0 i ls = refV KL KA KB KF (-1) i ls) ∧ (1 ≤ i → progV KL KA KB KF 1 i ls = refV KL KA KB KF ((0 : Nat) : Int) i ls ∧ progV KL KA KB KF 1 i ls = refV KL KA KB KF ((1 : Nat) : Int) i ls ∧
   progV KL KA KB KF 2 i ls = refV KL KA KB KF ((2 : Nat) : Int) i ls ∧ progV KL KA KB KF 4 i ls = refV KL KA KB KF ((3 : Nat) : Int) i ls)
 | [], i => ⟨fun _ => rfl, fun _ => ⟨rfl, rfl, rfl, rfl⟩⟩
 | s :: ls, i => by
  have ih := readV_same H ls (i + 1)
  have ih := ih.2 (by omega)
  refine ⟨fun h => ?_, fun h => ?_⟩
  ·subst h
   rw [progV, show nxV KA KB 0 s = 0 from rfl, if_neg (show ¬ 4 ≤ 0 by decide), if_pos (show (0 : Nat) = 0 ∨ (0 : Nat) = 3 from .inl rfl)]
   exact step_same H (k := 0) (by omega) (by simp) (fun j h1 h2 _ => .inr (.inr (by simp [h2]))) ih.1
  ·have hno : decide (i = 0) = false := Zdf (by omega)
   have g3 : ∀ bf : Int, (bf = 0 ∨ bf = 1 ∨ bf = 2) → ∀ k, k ≤ 3 → bf ≤ (k : Int) → k ≠ 0 → ¬ ((k : Int) < bf ∨ bf = 3 ∨ (decide (k = 0) ≠ decide (i = 0))) := by
    intro bf hbf k _ hk hk0
    rw [hno, Zdf hk0]
    rintro (h1 | h1 | h1)
    ·omega
    ·omega
    ·exact h1 rfl
   have h0 : ∀ bf : Int, ((0 : Nat) : Int) < bf ∨ bf = 3 ∨ (decide ((0 : Nat) = 0) ≠ decide (i = 0)) := fun bf => .inr (.inr (by rw [hno]; decide))
   have one : ∀ bf : Int, (bf = 0 ∨ bf = 1) → progV KL KA KB KF 1 i (s :: ls) = refV KL KA KB KF bf i (s :: ls) := by
    intro bf hbf
    have hb3 : bf = 0 ∨ bf = 1 ∨ bf = 2 := by omega
    rw [progV]
    by_cases hA : preV KA s = true
    ·have e : nxV KA KB 1 s = 1 := by unfold nxV; rw [if_pos rfl, if_pos hA]
     rw [e, if_neg (show ¬ 4 ≤ 1 by decide), if_neg (show ¬ ((1 : Nat) = 0 ∨ (1 : Nat) = 3) by decide)]
     exact step_same H (k := 1) (by omega) (g3 bf hb3 1 (by omega) (by omega) (by omega)) (fun j h1 h2 h4 => absurd (pre_one H h1 (by omega : 1 ≤ 3) h4 hA) h2) ih.2.1
    ·by_cases hB : preV KB s = true
     ·have e : nxV KA KB 1 s = 2 := by unfold nxV; rw [if_pos rfl, if_neg hA, if_pos hB]
      rw [e, if_neg (show ¬ 4 ≤ 2 by decide), if_neg (show ¬ ((2 : Nat) = 0 ∨ (2 : Nat) = 3) by decide)]
      exact step_same H (k := 2) (by omega) (g3 bf hb3 2 (by omega) (by omega) (by omega)) (fun j h1 h2 h4 => absurd (pre_one H h1 (by omega : 2 ≤ 3) h4 hB) h2) ih.2.2.1
     ·have e : nxV KA KB 1 s = 3 := by unfold nxV; rw [if_pos rfl, if_neg hA, if_neg hB]
      rw [e, if_neg (show ¬ 4 ≤ 3 by decide), if_pos (show (3 : Nat) = 0 ∨ (3 : Nat) = 3 by decide)]
      refine step_same H (k := 3) (by omega) (g3 bf hb3 3 (by omega) (by omega) (by omega)) (fun j h1 h2 h4 => ?_) ih.2.2.2
      match j, h1, h2, h4 with
      | 0, _, _, _ => exact h0 bf
      | 1, _, _, h4 => exact absurd h4 hA
      | 2, _, _, h4 => exact absurd h4 hB
      | 3, _, h2, _ => exact absurd rfl h2
   refine ⟨one _ (.inl rfl), one _ (.inr rfl), ?_, ?_⟩
   ·rw [progV]
    by_cases hB : preV KB s = true
    ·have e : nxV KA KB 2 s = 2 := by unfold nxV; rw [if_neg (by decide), if_pos rfl, if_pos hB]
     rw [e, if_neg (show ¬ 4 ≤ 2 by decide), if_neg (show ¬ ((2 : Nat) = 0 ∨ (2 : Nat) = 3) by decide)]
     exact step_same H (k := 2) (by omega) (g3 2 (by omega) 2 (by omega) (by omega) (by omega)) (fun j h1 h2 h4 => absurd (pre_one H h1 (by omega : 2 ≤ 3) h4 hB) h2) ih.2.2.1
    ·have e : nxV KA KB 2 s = 3 := by unfold nxV; rw [if_neg (by decide), if_pos rfl, if_neg hB]
     rw [e, if_neg (show ¬ 4 ≤ 3 by decide), if_pos (show (3 : Nat) = 0 ∨ (3 : Nat) = 3 by decide)]
     refine step_same H (k := 3) (by omega) (g3 2 (by omega) 3 (by omega) (by omega) (by omega)) (fun j h1 h2 h4 => ?_) ih.2.2.2
     match j, h1, h2, h4 with
     | 0, _, _, _ => exact h0 _
     | 1, _, _, _ => exact .inl (by decide)
     | 2, _, _, h4 => exact absurd h4 hB
     | 3, _, h2, _ => exact absurd rfl h2
   ·rw [progV, refV, show nxV KA KB 4 s = 4 from rfl, if_pos (show 4 ≤ 4 from Nat.le_refl _)]
    cases lineR KL KA KB KF s with
    | none => rfl
    | some x =>
     dsimp only
     rw [if_pos (.inr (.inl rfl))]
theorem consV_ok {x : Nat × List Int} {r : RdE} {d : Bool} {l : List (Nat × List Int)} : r.cons x = .ok d l ↔ ∃ l', l = x :: l' ∧ r = .ok d l' := by
 cases r with
 | bad n => exact ⟨fun h => (by cases h), fun ⟨_, _, h⟩ => (by cases h)⟩
 | ok d' l' =>
  constructor
  ·intro h; cases h; exact ⟨l', rfl, rfl⟩
  ·rintro ⟨l2, rfl, h⟩; cases h; rfl
def seqV : Int → List (Nat × List Int) → Prop
 | bf, [] => bf = 3
 | bf, x :: r => x.1 ≤ 3 ∧ bf ≤ (x.1 : Int) ∧ bf ≠ 3 ∧ (x.1 = 0 ↔ bf = -1) ∧ seqV x.1 r
def readAsV (KL KA KB KF : Kv) : List (List UInt8) → List (Nat × List Int) → Prop
 | [], [] => True
 | s :: ls, x :: l => (kvAt KL KA KB KF x.1).rd s = some x.2 ∧ readAsV KL KA KB KF ls l
 | _, _ => False
theorem refV_ok (H : KOk KL KA KB KF) : ∀ (ls : List (List UInt8)) (i : Nat) (bf : Int) (l : List (Nat × List Int)), (bf = -1 ↔ i = 0) → (refV KL KA KB KF bf i ls = .ok true l ↔ seqV bf l ∧ readAsV KL KA KB KF ls l)
 | [], i, bf, l, hb => by
  constructor
  ·intro h
   unfold refV at h
   injection h with h1 h2
   subst h2
   exact ⟨show bf = 3 by simpa using h1, trivial⟩
  ·rintro ⟨h1, h2⟩
   cases l with
   | nil =>
    unfold refV
    rw [Zdt (show bf = 3 from h1)]
   | cons x l => exact h2.elim
 | s :: ls, i, bf, l, hb => by
  have ih := fun (k : Nat) (l : List (Nat × List Int)) => refV_ok H ls (i + 1) (k : Int) l ⟨fun h => by omega, fun h => by omega⟩
  rw [refV]
  constructor
  ·intro h
   cases hl : lineR KL KA KB KF s with
   | none => rw [hl] at h; cases h
   | some x =>
    obtain ⟨k, x⟩ := x
    rw [hl] at h
    dsimp only at h
    split at h
    ·cases h
    ·rename_i hc
     obtain ⟨l', rfl, h9⟩ := consV_ok.1 h
     obtain ⟨h1, h2⟩ := (lineR_iff H).1 hl
     obtain ⟨h3, h4⟩ := (ih k l').1 h9
     simp only [not_or, ne_eq, Decidable.not_not] at hc
     obtain ⟨c1, c2, c3⟩ := hc
     refine ⟨⟨h1, by show bf ≤ (k : Int); omega, c2, ?_, h3⟩, h2, h4⟩
     show k = 0 ↔ bf = -1
     rw [hb]
     exact decide_eq_decide.1 c3
  ·rintro ⟨h1, h2⟩
   cases l with
   | nil => exact h2.elim
   | cons x l =>
    obtain ⟨k, x⟩ := x
    obtain ⟨a1, a2, a3, a4, a5⟩ := h1
    obtain ⟨b1, b2⟩ := h2
    rw [(lineR_iff H).2 ⟨a1, b1⟩]
    dsimp only at a1 a2 a4 ⊢
    rw [if_neg]
    ·exact consV_ok.2 ⟨l, rfl, (ih k l).2 ⟨a5, b2⟩⟩
    ·rintro (c1 | c1 | c1)
     ·omega
     ·exact a3 c1
     ·exact c1 (decide_eq_decide.2 (by rw [a4, hb]))
end
end
section
open Go Go.Lib
def lawW : List UInt8 := [108, 97, 119]
def lowW : List UInt8 := [108, 111, 119]
def highW : List UInt8 := [104, 105, 103, 104]
def fileV : List UInt8 := [102, 105, 108, 101]
abbrev KL : Kv := ⟨lawW, [false, false, false, false, false]⟩
abbrev KA : Kv := ⟨lowW, [true, true]⟩
abbrev KB : Kv := ⟨highW, [true, true]⟩
abbrev KF : Kv := ⟨fileV, [true, true, true, true, false, true, true, false]⟩
theorem kOk : KOk KL KA KB KF := ⟨⟨by simp, by simp, by simp, by simp⟩, by decide, by decide, by decide, by decide, by decide, by decide, by decide, by decide, by decide, by decide⟩
def zeroB : Bx := { first := 0, step := 0, span := 0, press := 0, note := 0, lows := [], highs := [], t0 := 0, t1 := 0, r0 := 0, r1 := 0, u0 := 0, u1 := 0, d0 := 0, d1 := 0, a0 := 0, a1 := 0, b0 := 0, b1 := 0, le := 0, me := 0 }
def putV : Nat → List Int → Bx → Bx
 | 0, [a, b, c, d, e], x => { x with first := a, step := b, span := c, press := d, note := e }
 | 1, [a, b, c, d], x => { x with lows := x.lows ++ [⟨a, b, c, d⟩] }
 | 2, [a, b, c, d], x => { x with highs := x.highs ++ [⟨a, b, c, d⟩] }
 | 3, [u0, u1, d0, d1, a0, a1, b0, b1, le, t0, t1, r0, r1, me], x => { x with u0 := u0, u1 := u1, d0 := d0, d1 := d1, a0 := a0, a1 := a1, b0 := b0, b1 := b1, le := le, t0 := t0, t1 := t1, r0 := r0, r1 := r1, me := me }
 | _, _, x => x
def foldV (l : List (Nat × List Int)) (b : Bx) : Bx := l.foldl (fun b p => putV p.1 p.2 b) b
def endV (rows : List (List UInt8)) : RdE → Bx × Int × Int
 | .bad r => (zeroB, (r : Int), 2)
 | .ok d l => if d = false ∨ rows.getLast? ≠ some [] then (zeroB, (rows.length : Int), 2) else if checkB (foldV l zeroB) ≠ 0 then (zeroB, 0, checkB (foldV l zeroB)) else (foldV l zeroB, 0, 0)
def readV (t : List UInt8) : Bx × Int × Int := if 500 < t.length then (zeroB, 0, 10) else endV (spl 10 t) (progV KL KA KB KF 0 0 (spl 10 t).dropLast)
def readVR (t : List UInt8) : Bx × Int × Int := if 500 < t.length then (zeroB, 0, 10) else endV (spl 10 t) (refV KL KA KB KF (-1) 0 (spl 10 t).dropLast)
theorem readV_eq (t : List UInt8) : readV t = readVR t := by
 unfold readV readVR
 rw [(readV_same kOk (spl 10 t).dropLast 0).1 rfl]
def rgV : List (Int × Int) → List UInt8
 | [] => []
 | p :: l => (44 :: (itoa p.1 ++ [46, 46] ++ itoa p.2)) ++ rgV l
def nmV : List Int → List UInt8
 | [] => []
 | a :: l => (44 :: itoa a) ++ nmV l
def sndT (w : List UInt8) (x : Snd) : List UInt8 := w ++ rgV [(x.t0, x.t1), (x.s0, x.s1)] ++ [10]
def writeV (b : Bx) : List UInt8 :=
 (lawW ++ nmV [b.first, b.step, b.span, b.press, b.note] ++ [10]) ++ b.lows.flatMap (sndT lowW) ++ b.highs.flatMap (sndT highW) ++
  (fileV ++ rgV [(b.u0, b.u1), (b.d0, b.d1), (b.a0, b.a1), (b.b0, b.b1)] ++ nmV [b.le] ++ rgV [(b.t0, b.t1), (b.r0, b.r1)] ++ nmV [b.me] ++ [10])
def sndR (x : Snd) : List Int := [x.t0, x.t1, x.s0, x.s1]
def recV (b : Bx) : List (Nat × List Int) := (0, [b.first, b.step, b.span, b.press, b.note]) :: (b.lows.map (fun x => (1, sndR x)) ++ (b.highs.map (fun x => (2, sndR x)) ++ [(3, [b.u0, b.u1, b.d0, b.d1, b.a0, b.a1, b.b0, b.b1, b.le, b.t0, b.t1, b.r0, b.r1, b.me])]))
def lineV : Nat × List Int → List UInt8
 | (k, xs) => joinC 44 ((kvAt KL KA KB KF k).word :: vt (kvAt KL KA KB KF k).form xs)
def okV (p : Nat × List Int) : Prop := p.1 ≤ 3 ∧ p.2.length = lenF (kvAt KL KA KB KF p.1).form ∧ ∀ v ∈ p.2, sm v
structure Bx.sm (b : Bx) : Prop where
 one : ∀ v ∈ [b.first, b.step, b.span, b.press, b.note], Go.Proofs.YtaikhendogcflaaGreatDoor.sm v
 lows : ∀ x ∈ b.lows, ∀ v ∈ sndR x, Go.Proofs.YtaikhendogcflaaGreatDoor.sm v
 highs : ∀ x ∈ b.highs, ∀ v ∈ sndR x, Go.Proofs.YtaikhendogcflaaGreatDoor.sm v
 file : ∀ v ∈ [b.u0, b.u1, b.d0, b.d1, b.a0, b.a1, b.b0, b.b1, b.le, b.t0, b.t1, b.r0, b.r1, b.me], Go.Proofs.YtaikhendogcflaaGreatDoor.sm v
theorem Snd.good.sm {x : Snd} (h : x.good) : ∀ v ∈ sndR x, Go.Proofs.YtaikhendogcflaaGreatDoor.sm v := by
 have h1 := h.t
 have h2 := h.s
 intro v hv
 simp only [sndR, List.mem_cons, List.not_mem_nil, or_false] at hv
 rcases hv with rfl | rfl | rfl | rfl <;> exact ⟨by omega, by omega⟩
theorem Bx.good.sm {b : Bx} (h : b.good) : b.sm := by
 have g := good_of h.job
 have h1 := h.law.first
 have h2 := h.law.step
 have h3 := h.law.span
 have h4 := h.law.press
 have h5 := h.note
 have k1 := g.t
 have k2 := g.r
 have k3 := g.u
 have k4 := g.d
 have k5 := g.a
 have k6 := g.b
 have k7 := g.le
 have k8 := g.me
 simp only [Bx.law, blankJ] at h1 h2 h3 h4 k1 k2 k3 k4 k5 k6 k7 k8
 refine ⟨?_, fun x hx => (h.lows.2 x hx).sm, fun x hx => (h.highs.2 x hx).sm, ?_⟩
 ·intro v hv
  simp only [List.mem_cons, List.not_mem_nil, or_false] at hv
  rcases hv with rfl | rfl | rfl | rfl | rfl <;> exact ⟨by omega, by omega⟩
 ·intro v hv
  simp only [List.mem_cons, List.not_mem_nil, or_false] at hv
  rcases hv with rfl | rfl | rfl | rfl | rfl | rfl | rfl | rfl | rfl | rfl | rfl | rfl | rfl | rfl <;> exact ⟨by omega, by omega⟩
theorem foldV_lows (l : List Snd) (r : List (Nat × List Int)) : ∀ b : Bx, foldV (l.map (fun x => (1, sndR x)) ++ r) b = foldV r { b with lows := b.lows ++ l } := by
 induction l with
 | nil => intro b; rw [List.append_nil]; rfl
 | cons x l ih =>
  intro b
  rw [List.map_cons, List.cons_append]
  show foldV (l.map _ ++ r) { b with lows := b.lows ++ [x] } = _
  rw [ih]
  simp
theorem foldV_highs (l : List Snd) (r : List (Nat × List Int)) : ∀ b : Bx, foldV (l.map (fun x => (2, sndR x)) ++ r) b = foldV r { b with highs := b.highs ++ l } := by
 induction l with
 | nil => intro b; rw [List.append_nil]; rfl
 | cons x l ih =>
  intro b
  rw [List.map_cons, List.cons_append]
  show foldV (l.map _ ++ r) { b with highs := b.highs ++ [x] } = _
  rw [ih]
  simp
theorem foldV_rec (b : Bx) : foldV (recV b) zeroB = b := by
 unfold recV
 show foldV (b.lows.map _ ++ (b.highs.map _ ++ [_])) _ = b
 rw [foldV_lows, foldV_highs]
 show ({ first := b.first, step := b.step, span := b.span, press := b.press, note := b.note, lows := [] ++ b.lows, highs := [] ++ b.highs, t0 := b.t0, t1 := b.t1, r0 := b.r0, r1 := b.r1, u0 := b.u0, u1 := b.u1, d0 := b.d0, d1 := b.d1, a0 := b.a0, a1 := b.a1, b0 := b.b0, b1 := b.b1, le := b.le, me := b.me } : Bx) = b
 rw [List.nil_append, List.nil_append]
theorem wordV_free (k : Nat) : (44 : UInt8) ∉ (kvAt KL KA KB KF k).word ∧ (10 : UInt8) ∉ (kvAt KL KA KB KF k).word := by
 rcases k with _ | _ | _ | k
 · exact ⟨by decide, by decide⟩
 · exact ⟨by decide, by decide⟩
 · exact ⟨by decide, by decide⟩
 · exact ⟨show (44 : UInt8) ∉ fileV by decide, show (10 : UInt8) ∉ fileV by decide⟩
theorem rdV_iff {k : Nat} {s : List UInt8} {xs : List Int} (hk : k ≤ 3) : (kvAt KL KA KB KF k).rd s = some xs ↔ s = lineV (k, xs) ∧ okV (k, xs) := by
 rw [rdv_iff (wordV_free k).1]
 exact ⟨fun h => ⟨h.1, hk, h.2.1, h.2.2⟩, fun h => ⟨h.1, h.2.2.1, h.2.2.2⟩⟩
theorem readAsV_iff : ∀ (ls : List (List UInt8)) (l : List (Nat × List Int)), (∀ p ∈ l, p.1 ≤ 3) → (readAsV KL KA KB KF ls l ↔ ls = l.map lineV ∧ ∀ p ∈ l, okV p)
 | [], [], _ => ⟨fun _ => ⟨rfl, fun p hp => (by cases hp)⟩, fun _ => trivial⟩
 | [], x :: l, _ => ⟨fun h => h.elim, fun h => (by cases h.1)⟩
 | s :: ls, [], _ => ⟨fun h => h.elim, fun h => (by cases h.1)⟩
 | s :: ls, x :: l, hl => by
  have ih := readAsV_iff ls l fun p hp => hl p (Zz1 hp)
  have h3 := hl x Zz2
  show (kvAt KL KA KB KF x.1).rd s = some x.2 ∧ readAsV KL KA KB KF ls l ↔ _
  rw [ih, rdV_iff h3, List.map_cons]
  constructor
  ·rintro ⟨⟨rfl, h1⟩, rfl, h2⟩
   exact ⟨rfl, fun p hp => by
    rcases List.mem_cons.1 hp with rfl | hp
    ·exact h1
    ·exact h2 p hp⟩
  ·rintro ⟨h1, h2⟩
   injection h1 with h1 h4
   exact ⟨⟨h1, h2 x Zz2⟩, h4, fun p hp => h2 p (Zz1 hp)⟩
theorem recV_ok {b : Bx} (h : b.sm) : ∀ p ∈ recV b, okV p := by
 intro p hp
 unfold recV at hp
 rcases List.mem_cons.1 hp with rfl | hp
 ·exact ⟨by omega, rfl, h.one⟩
 ·rcases List.mem_append.1 hp with hp | hp
  ·obtain ⟨x, hx, rfl⟩ := List.mem_map.1 hp
   exact ⟨by omega, rfl, h.lows x hx⟩
  ·rcases List.mem_append.1 hp with hp | hp
   ·obtain ⟨x, hx, rfl⟩ := List.mem_map.1 hp
    exact ⟨by omega, rfl, h.highs x hx⟩
   ·rcases List.mem_singleton.1 hp with rfl
    exact ⟨by omega, rfl, h.file⟩
theorem seqV_le : ∀ (l : List (Nat × List Int)) (bf : Int), seqV bf l → ∀ p ∈ l, p.1 ≤ 3
 | [], _, _, p, hp => by cases hp
 | x :: r, bf, h, p, hp => by
  rcases List.mem_cons.1 hp with rfl | hp
  ·exact h.1
  ·exact seqV_le r _ h.2.2.2.2 p hp
theorem seqV_highs (z : List Int) : ∀ (l : List Snd) (bf : Int), 0 ≤ bf → bf ≤ 2 → seqV bf (l.map (fun x => (2, sndR x)) ++ [(3, z)])
 | [], bf, h1, h2 => ⟨Nat.le_refl _, show bf ≤ ((3 : Nat) : Int) by omega, by omega, ⟨fun h => absurd (show (3 : Nat) = 0 from h) (by decide), fun h => by omega⟩, rfl⟩
 | x :: l, bf, h1, h2 => ⟨show 2 ≤ 3 by omega, show bf ≤ ((2 : Nat) : Int) by omega, by omega, ⟨fun h => absurd (show (2 : Nat) = 0 from h) (by decide), fun h => by omega⟩, seqV_highs z l ((2 : Nat) : Int) (by decide) (by decide)⟩
theorem seqV_lows (z : List Int) (k : List Snd) : ∀ (l : List Snd) (bf : Int), 0 ≤ bf → bf ≤ 1 → seqV bf (l.map (fun x => (1, sndR x)) ++ (k.map (fun x => (2, sndR x)) ++ [(3, z)]))
 | [], bf, h1, h2 => seqV_highs z k bf h1 (by omega)
 | x :: l, bf, h1, h2 => ⟨show 1 ≤ 3 by omega, show bf ≤ ((1 : Nat) : Int) by omega, by omega, ⟨fun h => absurd (show (1 : Nat) = 0 from h) (by decide), fun h => by omega⟩, seqV_lows z k l ((1 : Nat) : Int) (by decide) (by decide)⟩
theorem recV_seq (b : Bx) : seqV (-1) (recV b) := ⟨Nat.zero_le _, show (-1 : Int) ≤ ((0 : Nat) : Int) by omega, by decide, ⟨fun _ => rfl, fun _ => rfl⟩, seqV_lows _ _ _ ((0 : Nat) : Int) (by decide) (by decide)⟩
theorem recV_lines {b : Bx} (h : b.sm) : refV KL KA KB KF (-1) 0 ((recV b).map lineV) = .ok true (recV b) :=
 (refV_ok kOk _ 0 (-1) _ ⟨fun _ => rfl, fun _ => rfl⟩).2 ⟨recV_seq b, (readAsV_iff _ _ (seqV_le _ _ (recV_seq b))).2 ⟨rfl, recV_ok h⟩⟩
theorem joinC_lines (ls : List (List UInt8)) : joinC 10 (ls ++ [[]]) = ls.flatMap fun s => s ++ [10] := by
 induction ls with
 | nil => rfl
 | cons a l ih =>
  rw [List.cons_append, joinC_cons (by simp), ih, List.flatMap_cons]
  simp
theorem lineV_L {a b c d e : Int} (h : ∀ v ∈ [a, b, c, d, e], sm v) : lineV (0, [a, b, c, d, e]) = lawW ++ nmV [a, b, c, d, e] := by
 have i := fun v hv => (it3_eq (h v hv)).symm
 show joinC 44 (lawW :: vt [false, false, false, false, false] [a, b, c, d, e]) = _
 simp only [vt, joinC, nmV, i a (by simp), i b (by simp), i c (by simp), i d (by simp), i e (by simp), List.append_assoc, List.cons_append, List.nil_append, List.append_nil]
theorem lineV_A {x : Snd} (h : ∀ v ∈ sndR x, sm v) : lineV (1, sndR x) = lowW ++ rgV [(x.t0, x.t1), (x.s0, x.s1)] := by
 have i := fun v hv => (it3_eq (h v hv)).symm
 show joinC 44 (lowW :: vt [true, true] [x.t0, x.t1, x.s0, x.s1]) = _
 simp only [vt, joinC, rgV, i x.t0 (by simp [sndR]), i x.t1 (by simp [sndR]), i x.s0 (by simp [sndR]), i x.s1 (by simp [sndR]), List.append_assoc, List.cons_append, List.nil_append, List.append_nil]
theorem lineV_B {x : Snd} (h : ∀ v ∈ sndR x, sm v) : lineV (2, sndR x) = highW ++ rgV [(x.t0, x.t1), (x.s0, x.s1)] := by
 have i := fun v hv => (it3_eq (h v hv)).symm
 show joinC 44 (highW :: vt [true, true] [x.t0, x.t1, x.s0, x.s1]) = _
 simp only [vt, joinC, rgV, i x.t0 (by simp [sndR]), i x.t1 (by simp [sndR]), i x.s0 (by simp [sndR]), i x.s1 (by simp [sndR]), List.append_assoc, List.cons_append, List.nil_append, List.append_nil]
theorem lineV_F {a b c d e f g k m n o p q r : Int} (h : ∀ v ∈ [a, b, c, d, e, f, g, k, m, n, o, p, q, r], sm v) : lineV (3, [a, b, c, d, e, f, g, k, m, n, o, p, q, r]) = fileV ++ rgV [(a, b), (c, d), (e, f), (g, k)] ++ nmV [m] ++ rgV [(n, o), (p, q)] ++ nmV [r] := by
 have i := fun v hv => (it3_eq (h v hv)).symm
 show joinC 44 (fileV :: vt [true, true, true, true, false, true, true, false] [a, b, c, d, e, f, g, k, m, n, o, p, q, r]) = _
 simp only [vt, joinC, rgV, nmV, i a (by simp), i b (by simp), i c (by simp), i d (by simp), i e (by simp), i f (by simp), i g (by simp), i k (by simp), i m (by simp), i n (by simp), i o (by simp), i p (by simp), i q (by simp), i r (by simp), List.append_assoc, List.cons_append, List.nil_append, List.append_nil]
theorem snds_lines {k : Nat} {w : List UInt8} (hk : ∀ x : Snd, (∀ v ∈ sndR x, sm v) → lineV (k, sndR x) ++ [10] = sndT w x) : ∀ l : List Snd, (∀ x ∈ l, ∀ v ∈ sndR x, sm v) → (l.map fun x => lineV (k, sndR x)).flatMap (fun s => s ++ [10]) = l.flatMap (sndT w)
 | [], _ => rfl
 | x :: l, h => by
  rw [List.map_cons, List.flatMap_cons, List.flatMap_cons, snds_lines hk l fun y hy => h y (Zz1 hy), hk x (h x Zz2)]
theorem writeV_lines {b : Bx} (h : b.sm) : writeV b = joinC 10 ((recV b).map lineV ++ [[]]) := by
 rw [joinC_lines]
 unfold recV writeV
 rw [List.map_cons, List.map_append, List.map_append, List.map_map, List.map_map, List.flatMap_cons, List.flatMap_append, List.flatMap_append, lineV_L h.one]
 rw [show (lineV ∘ fun x : Snd => ((1 : Nat), sndR x)) = fun x => lineV (1, sndR x) from rfl, show (lineV ∘ fun x : Snd => ((2 : Nat), sndR x)) = fun x => lineV (2, sndR x) from rfl]
 rw [snds_lines (w := lowW) (fun x hx => by rw [lineV_A hx]; rfl) b.lows h.lows, snds_lines (w := highW) (fun x hx => by rw [lineV_B hx]; rfl) b.highs h.highs]
 rw [List.map_cons, List.map_nil, List.flatMap_cons, List.flatMap_nil, lineV_F h.file, List.append_nil]
 simp only [List.append_assoc]
theorem lineV_free {p : Nat × List Int} (h : okV p) : (10 : UInt8) ∉ lineV p := by
 obtain ⟨k, xs⟩ := p
 have key : ∀ l : List (List UInt8), (∀ s ∈ l, (10 : UInt8) ∉ s) → (10 : UInt8) ∉ joinC 44 l := by
  intro l
  induction l with
  | nil => intro _ h; cases h
  | cons a l ih =>
   intro hl
   cases l with
   | nil => exact hl a Zz2
   | cons b l =>
    rw [joinC_cons (by simp)]
    simp only [List.mem_append, List.mem_cons, not_or]
    exact ⟨hl a Zz2, by decide, ih fun s hs => hl s (Zz1 hs)⟩
 refine key _ fun s hs => ?_
 rcases List.mem_cons.1 hs with rfl | hs
 ·exact (wordV_free k).2
 ·exact vt_free (.inr rfl) _ _ h.2.2 s hs
theorem spl_writeV {b : Bx} (h : b.sm) : spl 10 (writeV b) = (recV b).map lineV ++ [[]] := by
 rw [writeV_lines h]
 refine join_spl (by simp) fun s hs => ?_
 rcases List.mem_append.1 hs with hs | hs
 ·obtain ⟨p, hp, rfl⟩ := List.mem_map.1 hs
  exact lineV_free (recV_ok h p hp)
 ·rcases List.mem_singleton.1 hs with rfl
  exact List.not_mem_nil
theorem itoa_len4 {v : Int} (h : sm v) : (itoa v).length ≤ 4 := by
 rw [it3_eq h]
 unfold it3 dd3
 split <;> split <;> (try split) <;> simp
theorem snds_len (w : List UInt8) (hw : w.length ≤ 4) : ∀ l : List Snd, (∀ x ∈ l, ∀ v ∈ sndR x, sm v) → (l.flatMap (sndT w)).length ≤ l.length * 27
 | [], _ => Nat.le_refl _
 | x :: l, h => by
  have h1 := h x Zz2
  have h2 := itoa_len4 (h1 x.t0 (by simp [sndR]))
  have h3 := itoa_len4 (h1 x.t1 (by simp [sndR]))
  have h4 := itoa_len4 (h1 x.s0 (by simp [sndR]))
  have h5 := itoa_len4 (h1 x.s1 (by simp [sndR]))
  have h6 := snds_len w hw l fun y hy => h y (Zz1 hy)
  have e : (sndT w x).length ≤ 27 := by
   simp only [sndT, rgV, List.length_append, List.length_cons, List.length_nil]
   omega
  rw [List.flatMap_cons, List.length_append, List.length_cons, Nat.succ_mul]
  omega
theorem writeV_len {b : Bx} (h : b.sm) (h4 : b.lows.length ≤ 4) (h5 : b.highs.length ≤ 5) : (writeV b).length ≤ 500 := by
 have h1 := fun v hv => itoa_len4 (h.one v hv)
 have h2 := fun v hv => itoa_len4 (h.file v hv)
 have k1 := snds_len lowW (by decide) b.lows h.lows
 have k2 := snds_len highW (by decide) b.highs h.highs
 have a1 := h1 b.first (by simp)
 have a2 := h1 b.step (by simp)
 have a3 := h1 b.span (by simp)
 have a4 := h1 b.press (by simp)
 have a5 := h1 b.note (by simp)
 have b1 := h2 b.u0 (by simp)
 have b2 := h2 b.u1 (by simp)
 have b3 := h2 b.d0 (by simp)
 have b4 := h2 b.d1 (by simp)
 have b5 := h2 b.a0 (by simp)
 have b6 := h2 b.a1 (by simp)
 have b7 := h2 b.b0 (by simp)
 have b8 := h2 b.b1 (by simp)
 have b9 := h2 b.le (by simp)
 have c1 := h2 b.t0 (by simp)
 have c2 := h2 b.t1 (by simp)
 have c3 := h2 b.r0 (by simp)
 have c4 := h2 b.r1 (by simp)
 have c5 := h2 b.me (by simp)
 unfold writeV
 rw [List.length_append, List.length_append, List.length_append]
 obtain ⟨n9, e9⟩ : ∃ n, n = (b.lows.flatMap (sndT lowW)).length := ⟨_, rfl⟩
 obtain ⟨n8, e8⟩ : ∃ n, n = (b.highs.flatMap (sndT highW)).length := ⟨_, rfl⟩
 rw [← e9] at k1 ⊢
 rw [← e8] at k2 ⊢
 clear e9 e8 h1 h2
 simp only [lawW, fileV, rgV, nmV, List.length_append, List.length_cons, List.length_nil]
 omega
theorem writeV_read {b : Bx} (h : checkB b = 0) : readV (writeV b) = (b, 0, 0) := by
 have g := checkB_good.1 h
 have hs := g.sm
 rw [readV_eq]
 unfold readVR
 rw [if_neg (by have := writeV_len hs g.lows.1 g.highs.1; omega), spl_writeV hs, List.dropLast_concat, recV_lines hs]
 show (if _ then _ else _) = _
 rw [if_neg (by simp), foldV_rec, if_neg (by simp [h])]
theorem okV_four {k : Nat} {xs : List Int} (h : okV (k, xs)) (hk : k = 1 ∨ k = 2) : ∃ x : Snd, xs = sndR x := by
 obtain ⟨-, h3, -⟩ := h
 have hl : xs.length = 4 := by rcases hk with rfl | rfl <;> exact h3
 match xs, hl with
 | [a, b, c, d], _ => exact ⟨⟨a, b, c, d⟩, rfl⟩
theorem seqV_end : ∀ (l : List (Nat × List Int)) (bf : Int), 0 ≤ bf → seqV bf l → (∀ p ∈ l, okV p) → (bf = 3 ∧ l = []) ∨ ∃ (lo hi : List Snd) (z : List Int), l = lo.map (fun x => (1, sndR x)) ++ (hi.map (fun x => (2, sndR x)) ++ [(3, z)]) ∧ (2 ≤ bf → lo = []) ∧ z.length = 14
 | [], bf, _, h, _ => .inl ⟨h, rfl⟩
 | (k, xs) :: r, bf, hb, h, hl => by
  have hx := hl _ Zz2
  obtain ⟨h1, h2, h3, h4, h5⟩ := h
  dsimp only at h1 h2 h4 h5
  have hk0 : k ≠ 0 := fun e => by have := h4.1 e; omega
  have ih := seqV_end r (k : Int) (by omega) h5 fun p hp => hl p (Zz1 hp)
  right
  match k, h1, hk0 with
  | 1, _, _ =>
   obtain ⟨x, rfl⟩ := okV_four hx (.inl rfl)
   rcases ih with ⟨e, _⟩ | ⟨lo, hi, z, rfl, -, hz⟩
   ·exact absurd e (by decide)
   ·exact ⟨x :: lo, hi, z, rfl, fun h9 => by omega, hz⟩
  | 2, _, _ =>
   obtain ⟨x, rfl⟩ := okV_four hx (.inr rfl)
   rcases ih with ⟨e, _⟩ | ⟨lo, hi, z, rfl, hlo, hz⟩
   ·exact absurd e (by decide)
   ·obtain rfl := hlo (by omega)
    exact ⟨[], x :: hi, z, rfl, fun _ => rfl, hz⟩
  | 3, _, _ =>
   have hz : xs.length = 14 := hx.2.1
   rcases ih with ⟨_, rfl⟩ | ⟨lo, hi, z, rfl, -, -⟩
   ·exact ⟨[], [], xs, rfl, fun _ => rfl, hz⟩
   ·exfalso
    have : ∀ (l : List (Nat × List Int)), l ≠ [] → ¬ seqV ((3 : Nat) : Int) l := by
     intro l hl h
     cases l with
     | nil => exact hl rfl
     | cons y l => exact h.2.2.1 rfl
    exact this _ (by simp) h5
theorem seqV_rec {l : List (Nat × List Int)} (h : seqV (-1) l) (hl : ∀ p ∈ l, okV p) : l = recV (foldV l zeroB) := by
 match l, h, hl with
 | [], h, _ => exact absurd (show (-1 : Int) = 3 from h) (by decide)
 | (k0, x0) :: r, h, hl =>
  obtain ⟨h1, h2, h3, h4, h5⟩ := h
  have h0 : k0 = 0 := h4.2 rfl
  subst h0
  rcases seqV_end r _ (by show (0 : Int) ≤ ((0 : Nat) : Int); omega) h5 fun p hp => hl p (Zz1 hp) with ⟨e, _⟩ | ⟨lo, hi, z, rfl, -, hz⟩
  ·exact absurd (show ((0 : Nat) : Int) = 3 from e) (by decide)
  ·have l0 : x0.length = 5 := (hl (0, x0) Zz2).2.1
   match x0, l0 with
   | [p0, p1, p2, p3, p4], _ =>
    match z, hz with
    | [u0, u1, d0, d1, a0, a1, b0, b1, le, t0, t1, r0, r1, me], _ =>
     have e : foldV ((0, [p0, p1, p2, p3, p4]) :: (lo.map (fun x => (1, sndR x)) ++ (hi.map (fun x => (2, sndR x)) ++ [(3, [u0, u1, d0, d1, a0, a1, b0, b1, le, t0, t1, r0, r1, me])]))) zeroB = { first := p0, step := p1, span := p2, press := p3, note := p4, lows := lo, highs := hi, t0 := t0, t1 := t1, r0 := r0, r1 := r1, u0 := u0, u1 := u1, d0 := d0, d1 := d1, a0 := a0, a1 := a1, b0 := b0, b1 := b1, le := le, me := me } := by
      show foldV (lo.map _ ++ (hi.map _ ++ [_])) _ = _
      rw [foldV_lows, foldV_highs]
      rfl
     rw [e]
     rfl
theorem readV_write {t : List UInt8} {y : Bx} {row : Int} (h : readV t = (y, row, 0)) : checkB y = 0 ∧ writeV y = t ∧ y.sm := by
 rw [readV_eq] at h
 unfold readVR at h
 split at h
 ·injection h with _ h; injection h with _ h; cases h
 ·cases hr : refV KL KA KB KF (-1) 0 (spl 10 t).dropLast with
  | bad r => rw [hr] at h; injection h with _ h; injection h with _ h; cases h
  | ok d l =>
   rw [hr] at h
   unfold endV at h
   dsimp only at h
   split at h
   ·injection h with _ h; injection h with _ h; cases h
   ·rename_i hd
    split at h
    ·rename_i hc
     injection h with _ h; injection h with _ h; exact absurd h hc
    ·rename_i hc
     injection h with h _
     subst h
     simp only [not_or, Bool.not_eq_false, ne_eq, Decidable.not_not] at hd hc
     obtain ⟨rfl, hlast⟩ := hd
     obtain ⟨h1, h2⟩ := (refV_ok kOk _ 0 (-1) _ ⟨fun _ => rfl, fun _ => rfl⟩).1 hr
     have h3 : ∀ p ∈ l, p.1 ≤ 3 := seqV_le l _ h1
     obtain ⟨h4, h5⟩ := (readAsV_iff _ _ h3).1 h2
     have h6 := seqV_rec h1 h5
     have g := checkB_good.1 hc
     refine ⟨hc, ?_, g.sm⟩
     rw [writeV_lines g.sm, ← h6, ← h4]
     have h7 : spl 10 t = (spl 10 t).dropLast ++ [[]] := by
      rw [List.getLast?_eq_some_iff] at hlast
      obtain ⟨r, hr⟩ := hlast
      rw [hr, List.dropLast_concat]
     rw [← h7, spl_join]
end
section
open Go Go.Lib
theorem itoa_len {v : Int} (h : sm v) : (itoa v).length ≤ 4 := by
 rw [it3_eq h]
 unfold it3 dd3
 split <;> split <;> (try split) <;> simp
end
abbrev bxM (b : Bx) (s1 s2 : Value) : List Value := [Zi b.first, Zi b.step, Zi b.span, Zi b.press, Zi b.note, s1, s2, Zi b.t0, Zi b.t1, Zi b.r0, Zi b.r1, Zi b.u0, Zi b.u1, Zi b.d0, Zi b.d1, Zi b.a0, Zi b.a1, Zi b.b0, Zi b.b1, Zi b.le, Zi b.me]
theorem rgV_snoc (l : List (Int × Int)) (x0 x1 : Int) : rgV (l ++ [(x0, x1)]) = rgV l ++ (([44] ++ Lib.itoa x0 ++ [46, 46]) ++ Lib.itoa x1) := by
 induction l with
 | nil => simp [rgV]
 | cons p r ih => rw [List.cons_append, rgV, rgV, ih]; simp only [List.append_assoc]
theorem rgV_len : ∀ (l : List (Int × Int)), (∀ p ∈ l, sm p.1 ∧ sm p.2) → (rgV l).length ≤ l.length * 11
 | [], _ => Nat.le_refl _
 | p :: r, h => by
  have h1 := itoa_len (h p Zz2).1
  have h2 := itoa_len (h p Zz2).2
  have h3 := rgV_len r fun q hq => h q (Zz1 hq)
  unfold rgV
  simp only [List.length_append, List.length_cons, List.length_nil]
  omega
theorem nmV_snoc (l : List Int) (x : Int) : nmV (l ++ [x]) = nmV l ++ ([44] ++ Lib.itoa x) := by
 induction l with
 | nil => simp [nmV]
 | cons p r ih => rw [List.cons_append, nmV, nmV, ih]; simp only [List.append_assoc]
theorem nmV_len : ∀ (l : List Int), (∀ p ∈ l, sm p) → (nmV l).length ≤ l.length * 5
 | [], _ => Nat.le_refl _
 | p :: r, h => by
  have h1 := itoa_len (h p Zz2)
  have h3 := nmV_len r fun q hq => h q (Zz1 hq)
  unfold nmV
  simp only [List.length_append, List.length_cons]
  omega
theorem sndT_len {w : List UInt8} (hw : w.length ≤ 4) : ∀ (l : List Snd), (∀ x ∈ l, x.good) → (l.flatMap (sndT w)).length ≤ l.length * 27 := fun l h => snds_len w hw l fun x hx => (h x hx).sm
theorem take_sn {α : Type} {l : List α} {k : Nat} {x : α} (h : l[k]? = some x) : l.take (k + 1) = l.take k ++ [x] := by rw [List.take_add_one, h]; rfl
def wrV (b : Bx) : List UInt8 := if checkB b = 0 then writeV b else []
theorem vranges_any (A : Option Addr) (n c : Nat) (l : List (Int × Int)) (w : World) (hr : Rd w w.heap.size 2 A n (rc l)) (hn : n ≤ 1000) (hl : ∀ p ∈ l, sm p.1 ∧ sm p.2) (hT : StrW w)  :
   Calls Tryz.prog 41 #[.slice A n c] w fun e w' => e = .returned (sv (rgV l)) ∧ Below w.heap.size w w' := by
 have hll := hr.len2
 obtain ⟨bJ, oJ, SJ⟩ := Sp.old hr
 refine Zpx noEx Tryz.func41 rfl 25 rfl [.slice A n c] rfl rfl (Mem.init w _) ?_
 intro ac wc T M
 refine Zsr ?_
 refine lq T (Zra rfl evc) ?_; clear T ac; intro ac T
 replace T := T.pick [1] rfl
 refine Zln ?_
 refine Zsr ?_
 refine lq T (Zra rfl evc) ?_; clear T ac; intro ac T
 refine Zln ?_
 refine wp_seq ?_
 refine Zsr ?_
 refine Zg3 T (Zq (Zrm rfl (T.e 1 rfl))) rfl (Zl Tryz.underlying57 0 rfl rfl) rfl (fun _ T => Zq (Zrm rfl evc)) rfl ?_; clear T ac; intro ac T
 replace T := T.pick [0, 1, 2, 3] rfl
 refine Zln ?_
 refine wp_block ?_
 refine wp_loop_n (fun mz ac wc => ∃ (k : Nat), mz = n - k ∧ (k ≤ n) ∧ ((rgV (l.take k)).length ≤ k * 11) ∧ Tm ac 25 [(3, sv (rgV (l.take k))), (6, .slice A n c), (7, Zi ((n : Nat) : Int)), (8, Zi (k : Int))] ∧ Mem w noEx wc []) ?_ ?_
 ·exact ⟨_, 0, rfl, (Nat.zero_le _), (Nat.le_refl _), T.pick [3, 2, 1, 0] rfl, M.mask [] rfl⟩
 clear T M
 rintro mz ac wc ⟨k, hmm1, hk, hs, T, M⟩
 refine Zsr ?_
 refine lq T (rn_lss rfl (T.e 3 rfl) (T.e 2 rfl)) ?_; clear T ac; intro ac T
 refine Zln ?_
 refine wp_seq ?_
 refine wp_if (T.e 0 rfl) ?_ ?_
 ·intro h1
  obtain ⟨x0, x1, hkx, -⟩ := rc_next (l := l) (k := k) (by omega)
  have hx := hl _ (List.mem_of_getElem? hkx)
  dsimp only at hx
  obtain ⟨⟨hx1, hx2⟩, hx3, hx4⟩ := hx
  refine Zsk ?_
  refine wp_seq ?_
  refine wp_block ?_
  refine Zsr ?_
  refine Zg2 (v2 := (.agg #[Zi x0, Zi x1])) T (Zq (Zri (size := 2) k rfl (T.e 2 rfl) (T.e 4 rfl) ⟨_, Tryz.underlying57, by kernel_rfl⟩ rfl (by omega) (SJ.at0 (by omega)))) rfl (fun _ T => Zq (rn_rowat (Sp.rcR SJ M (Zz9 _) hkx) rfl (T.e 0 rfl) rfl)) rfl ?_; clear T ac; intro ac T
  refine Zl2 ?_
  refine Zoa M T rfl rfl rfl rfl ?_; clear M T; intro g1 wc ac M T
  refine Zl2 ?_
  refine Zos M T rfl rfl (T.e 0 rfl) (T.e 1 rfl) rfl .head rfl (by simp) rfl (by kernel_rfl) ?_; clear M T; intro wc ac M T
  replace T := T.pick [0, 4, 5, 6, 7] rfl
  refine Zln ?_
  refine Zgs M (M.mask [true] rfl) 12 (by kernel_rfl) rfl (by kernel_rfl) ?_
  clear M; intro wc M
  refine gq T 0 1 rfl (fun _ _ _ _ _ => (Zrm rfl (T.e 1 rfl))) ?_; clear T ac; intro ac T
  refine gq (v := (Zj g1)) T 1 3 rfl (fun _ _ _ _ _ => (Zrf (off := 0) rfl (T.e 1 rfl) (fun _ _ _ => by kernel_rfl))) ?_; clear T ac; intro ac T
  refine gq T 2 7 rfl (fun B w' hD hl hS => (Zro (Mem.nth (show Mem w noEx w' _ from hS) 0 rfl) rfl (T.e 0 rfl) rfl)) ?_; clear T ac; intro ac T
  refine gq (v := (.pointer (some ⟨g1, 1, none⟩))) T 6 71 rfl (fun _ _ _ _ _ => (Zrf (off := 1) rfl (T.e 3 rfl) (fun _ _ _ => by kernel_rfl))) ?_; clear T ac; intro ac T
  refine gq T 7 199 rfl (fun B w' hD hl hS => (Zro (Mem.nth (show Mem w noEx w' _ from hS) 0 rfl) rfl (T.e 0 rfl) rfl)) ?_; clear T ac; intro ac T
  refine gw 3 207 ?_; intro K hK
  refine Zoc (first := []) (cap := []) T rfl rfl rfl rfl evf (.cons (T.e 2 rfl) .nil) Tryz.func43 rfl rfl ?_
  refine Calls.mono (Itoa_any x0 _ (by (try dsimp only); omega) (hT.mem0 M)) ?_
  clear T; rintro e wc ⟨rfl, hb⟩ ac T
  replace M := M.call hb; clear hb
  have hiu1 := itoa_len (v := x0) ⟨by (try dsimp only); omega, by (try dsimp only); omega⟩
  refine Zso hK _ _ (M.mask [true] rfl) ?_; clear hK K
  refine gq T 4 223 rfl (fun _ _ _ _ _ => (rn_sadd rfl evc (T.e 0 rfl) (by (try simp only [List.length_append, List.length_cons, List.length_nil]); omega))) ?_; clear T ac; intro ac T
  refine gq T 5 255 rfl (fun _ _ _ _ _ => (rn_sadd rfl (T.e 0 rfl) evc (by (try simp only [List.length_append, List.length_cons, List.length_nil]); omega))) ?_; clear T ac; intro ac T
  refine gw 8 511 ?_; intro K hK
  refine Zoc (first := []) (cap := []) T rfl rfl rfl rfl evf (.cons (T.e 3 rfl) .nil) Tryz.func43 rfl rfl ?_
  refine Calls.mono (Itoa_any x1 _ (by (try dsimp only); omega) (hT.mem0 M)) ?_
  clear T; rintro e wc ⟨rfl, hb⟩ ac T
  replace M := M.call hb; clear hb
  have hiu2 := itoa_len (v := x1) ⟨by (try dsimp only); omega, by (try dsimp only); omega⟩
  refine Zso hK _ _ (M.mask [true] rfl) ?_; clear hK K
  refine gq T 9 1023 rfl (fun _ _ _ _ _ => (rn_sadd rfl (T.e 1 rfl) (T.e 0 rfl) (by (try simp only [List.length_append, List.length_cons, List.length_nil]); omega))) ?_; clear T ac; intro ac T
  refine gq T 10 2047 rfl (fun _ _ _ _ _ => (rn_sadd rfl (T.e 9 rfl) (T.e 0 rfl) (by (try simp only [List.length_append, List.length_cons, List.length_nil]); omega))) ?_; clear T ac; intro ac T
  refine g_q (v := (sv ((rgV (l.take k)) ++ (((([44]) ++ (Lib.itoa x0)) ++ ([46, 46])) ++ (Lib.itoa x1))))) (T := T.pick [0, 1, 2, 3, 4, 5, 6, 7, 8, 9, 10, 11, 13, 14, 15] rfl) (i := 11) rfl (by kernel_rfl) (by kernel_rfl : (Zpb 12 2047).setIfInBounds 11 true = Zpb 12 4095) si_U (fun _ _ _ h => h) rfl rfl rfl rfl (fun _ _ _ _ _ => (Zra rfl (T.e 0 rfl))) ?_; clear T ac; intro ac T
  refine Zgd (by kernel_rfl) ?_
  replace T := T.pick [0, 13, 14, 15] rfl
  replace M := M.mask [false] rfl
  refine Znb ?_
  refine nm_then ?_
  refine wp_region_lit ?_
  refine lq T (rn_add rfl (T.e 3 rfl) evc (by omega)) ?_; clear T ac; intro ac T
  refine l_q (v := (Zi ((k : Int) + 1))) (T.pick [0, 1, 2, 3] rfl) rfl rfl rfl rfl (Zrm rfl (T.e 0 rfl)) ?_; clear T ac; intro ac T
  replace T := T.pick [0, 2, 3, 4] rfl
  refine Zln ?_
  have e9 : rgV (l.take k) ++ (([44] ++ Lib.itoa x0 ++ [46, 46]) ++ Lib.itoa x1) = rgV (l.take (k + 1)) := by rw [take_sn hkx, rgV_snoc]
  rw [e9] at T
  have hs2 := congrArg List.length e9
  simp only [List.length_append, List.length_cons, List.length_nil] at hs2
  exact ⟨_, by omega, k + 1, rfl, (by omega), (by omega), T.pick [1, 2, 3, 0] rfl, M.mask [] rfl⟩
 intro h1
 refine wp_exit ?_
 refine Zet ?_
 refine Zet ?_
 refine ex_hit ?_
 refine nm_then ?_
 refine Zsr ?_
 refine Zg2 T (Zq (Zrm rfl (T.e 1 rfl))) rfl (Za 0 rfl rfl) rfl ?_; clear T ac; intro ac T
 replace T := T.pick [0] rfl
 refine Zln ?_
 refine wp_ret ?_
 refine rt_1 T rfl (T.e 0 rfl) ?_
 have e9 : l.take k = l := List.take_of_length_le (by omega)
 rw [e9]
 exact ⟨rfl, M.below⟩
theorem vnumbers_any (A : Option Addr) (n c : Nat) (l : List Int) (w : World) (hr : Rd w w.heap.size 1 A n (ic l)) (hn : n ≤ 1000) (hl : ∀ p ∈ l, sm p) (hT : StrW w)  :
   Calls Tryz.prog 40 #[.slice A n c] w fun e w' => e = .returned (sv (nmV l)) ∧ Below w.heap.size w w' := by
 have hll := hr.len1
 obtain ⟨bJ, oJ, SJ⟩ := Sp.old hr
 refine Zpx noEx Tryz.func40 rfl 19 rfl [.slice A n c] rfl rfl (Mem.init w _) ?_
 intro ac wc T M
 refine Zsr ?_
 refine lq T (Zra rfl evc) ?_; clear T ac; intro ac T
 replace T := T.pick [1] rfl
 refine Zln ?_
 refine Zsr ?_
 refine lq T (Zra rfl evc) ?_; clear T ac; intro ac T
 refine Zln ?_
 refine wp_seq ?_
 refine Zsr ?_
 refine Zg3 T (Zq (Zrm rfl (T.e 1 rfl))) rfl (Zl Tryz.underlying31 0 rfl rfl) rfl (fun _ T => Zq (Zrm rfl evc)) rfl ?_; clear T ac; intro ac T
 replace T := T.pick [0, 1, 2, 3] rfl
 refine Zln ?_
 refine wp_block ?_
 refine wp_loop_n (fun mz ac wc => ∃ (k : Nat), mz = n - k ∧ (k ≤ n) ∧ ((nmV (l.take k)).length ≤ k * 5) ∧ Tm ac 19 [(3, sv (nmV (l.take k))), (6, .slice A n c), (7, Zi ((n : Nat) : Int)), (8, Zi (k : Int))] ∧ Mem w noEx wc []) ?_ ?_
 ·exact ⟨_, 0, rfl, (Nat.zero_le _), (Nat.le_refl _), T.pick [3, 2, 1, 0] rfl, M.mask [] rfl⟩
 clear T M
 rintro mz ac wc ⟨k, hmm1, hk, hs, T, M⟩
 refine Zsr ?_
 refine lq T (rn_lss rfl (T.e 3 rfl) (T.e 2 rfl)) ?_; clear T ac; intro ac T
 refine Zln ?_
 refine wp_seq ?_
 refine wp_if (T.e 0 rfl) ?_ ?_
 ·intro h1
  obtain ⟨x0, hkx, -⟩ := ic_next (l := l) (k := k) (by omega)
  have hx := hl _ (List.mem_of_getElem? hkx)
  obtain ⟨hx1, hx2⟩ := hx
  refine Zsk ?_
  refine wp_seq ?_
  refine wp_block ?_
  refine Zsr ?_
  refine Zg3 T (Zq (Zri (size := 1) k rfl (T.e 2 rfl) (T.e 4 rfl) ⟨_, Tryz.underlying31, by kernel_rfl⟩ rfl (by omega) (SJ.at0 (by omega)))) rfl (fun _ T => Zq (rn_cell (Sp.ic0 SJ M (Zz9 _) hkx) rfl (T.e 0 rfl))) rfl (Za 0 rfl rfl) rfl ?_; clear T ac; intro ac T
  replace T := T.pick [0, 4, 5, 6, 7] rfl
  refine Zln ?_
  refine wp_region_lit ?_
  refine Zg2 T (Zq (Zrm rfl (T.e 1 rfl))) rfl (Zm 1 rfl rfl) rfl ?_; clear T ac; intro ac T
  refine Zl2 ?_
  refine Zoc (first := []) (cap := []) T rfl rfl rfl rfl evf (.cons (T.e 0 rfl) .nil) Tryz.func43 rfl rfl ?_
  refine Calls.mono (Itoa_any x0 _ (by (try dsimp only); omega) (hT.mem0 M)) ?_
  clear T; rintro e wc ⟨rfl, hb⟩ ac T
  replace M := M.call hb; clear hb
  have hiu1 := itoa_len (v := x0) ⟨by (try dsimp only); omega, by (try dsimp only); omega⟩
  refine Zg2 T (Zq (rn_sadd rfl evc (T.e 0 rfl) (by (try simp only [List.length_append, List.length_cons, List.length_nil]); omega))) rfl (fun _ T => Zq (rn_sadd rfl (T.e 3 rfl) (T.e 0 rfl) (by (try simp only [List.length_append, List.length_cons, List.length_nil]); omega))) rfl ?_; clear T ac; intro ac T
  refine l_q (v := (sv ((nmV (l.take k)) ++ (([44]) ++ (Lib.itoa x0))))) (T.pick [0, 1, 2, 3, 4, 5, 7, 8, 9] rfl) rfl rfl rfl rfl (Zra rfl (T.e 0 rfl)) ?_; clear T ac; intro ac T
  refine wpList_nil ?_
  replace T := T.pick [0, 7, 8, 9] rfl
  refine Znb ?_
  refine nm_then ?_
  refine wp_region_lit ?_
  refine lq T (rn_add rfl (T.e 3 rfl) evc (by omega)) ?_; clear T ac; intro ac T
  refine l_q (v := (Zi ((k : Int) + 1))) (T.pick [0, 1, 2, 3] rfl) rfl rfl rfl rfl (Zrm rfl (T.e 0 rfl)) ?_; clear T ac; intro ac T
  replace T := T.pick [0, 2, 3, 4] rfl
  refine Zln ?_
  have e9 : nmV (l.take k) ++ ([44] ++ Lib.itoa x0) = nmV (l.take (k + 1)) := by rw [take_sn hkx, nmV_snoc]
  rw [e9] at T
  have hs2 := congrArg List.length e9
  simp only [List.length_append, List.length_cons, List.length_nil] at hs2
  exact ⟨_, by omega, k + 1, rfl, (by omega), (by omega), T.pick [1, 2, 3, 0] rfl, M.mask [] rfl⟩
 intro h1
 refine wp_exit ?_
 refine Zet ?_
 refine Zet ?_
 refine ex_hit ?_
 refine nm_then ?_
 refine Zsr ?_
 refine Zg2 T (Zq (Zrm rfl (T.e 1 rfl))) rfl (Za 0 rfl rfl) rfl ?_; clear T ac; intro ac T
 replace T := T.pick [0] rfl
 refine Zln ?_
 refine wp_ret ?_
 refine rt_1 T rfl (T.e 0 rfl) ?_
 have e9 : l.take k = l := List.take_of_length_le (by omega)
 rw [e9]
 exact ⟨rfl, M.below⟩
set_option maxHeartbeats 4000000 in
theorem vwrite_any (b : Bx) (A : Option Addr) (c : Nat) (B : Option Addr) (d : Nat) (w : World) (hA : Rd w w.heap.size 4 A b.lows.length (sc b.lows)) (hB : Rd w w.heap.size 4 B b.highs.length (sc b.highs)) (nA : b.lows.length ≤ 1000000) (nB : b.highs.length ≤ 1000000) (hT : StrW w)  :
   Calls Tryz.prog 10 #[bxV b A c B d] w fun e w' => e = .returned (.tuple #[sv (wrV b), Zi (checkB b)]) ∧ Below w.heap.size w w' := by
 have hlA := hA.len4
 have hlB := hB.len4
 obtain ⟨bA, oA, SA⟩ := Sp.old hA
 obtain ⟨bB, oB, SB⟩ := Sp.old hB
 refine Zpx noEx Tryz.func10 rfl 105 rfl [.agg #[Zi b.first, Zi b.step, Zi b.span, Zi b.press, Zi b.note, .slice A b.lows.length c, .slice B b.highs.length d, Zi b.t0, Zi b.t1, Zi b.r0, Zi b.r1, Zi b.u0, Zi b.u1, Zi b.d0, Zi b.d1, Zi b.a0, Zi b.a1, Zi b.b0, Zi b.b1, Zi b.le, Zi b.me]] rfl rfl (Mem.init w _) ?_
 intro ac wc T M
 refine Zsr ?_
 refine Zl2 ?_
 refine Zob M T rfl rfl rfl rfl (T.e 0 rfl) rfl ?_; clear M T; intro g1 wc ac M T
 refine Zg2 T (Zq (Zra rfl evc)) rfl (Zc rfl) rfl ?_; clear T ac; intro ac T
 replace T := T.pick [2] rfl
 refine Zln ?_
 refine wp_seq ?_
 refine Zsr ?_
 refine lq T (Zrr (Mem.nth M 0 rfl) rfl (T.e 0 rfl) rfl) ?_; clear T ac; intro ac T
 refine Zl2 ?_
 refine Zoc (first := []) (cap := []) T rfl rfl rfl rfl evf (.cons (T.e 0 rfl) .nil) Tryz.func39 rfl rfl ?_
 refine Calls.mono (vCheck_any b _ _ _ _ _ (SA.rd M (Zz9 _)) (SB.rd M (Zz9 _)) (by omega) (by omega)) ?_
 clear T; rintro e wc ⟨rfl, hb⟩ ac T
 replace M := M.call hb; clear hb
 refine lq T (Zra rfl (T.e 0 rfl)) ?_; clear T ac; intro ac T
 replace T := T.pick [0, 3] rfl
 refine Zln ?_
 refine Zsr ?_
 refine Zg2 T (Zq (Zrm rfl (T.e 0 rfl))) rfl (fun _ T => Zq (rn_neq rfl (T.e 0 rfl) evc)) rfl ?_; clear T ac; intro ac T
 replace T := T.pick [0, 2, 3] rfl
 refine Zln ?_
 refine wp_ifn (T.e 0 rfl) ?_ ?_
 ·intro h1
  refine Zsr ?_
  refine Zg3 T (Zq (Zrm rfl (T.e 1 rfl))) rfl (Zc rfl) rfl (Za 1 rfl rfl) rfl ?_; clear T ac; intro ac T
  refine wpList_nil ?_
  replace T := T.pick [0, 1] rfl
  replace M := M.mask [false] rfl
  refine Znr ?_
  refine Zrt ?_
  refine rt_2 T rfl (T.e 1 rfl) (T.e 0 rfl) ?_
  have e9 : wrV b = [] := by unfold wrV; rw [if_neg (by assumption)]
  rw [e9]
  exact ⟨rfl, M.below⟩
 intro h1
 have gb := checkB_good.1 (show checkB b = 0 by omega)
 have gj := good_of gb.job
 have gq1 := gb.law.first
 have gq2 := gb.law.step
 have gq3 := gb.law.span
 have gq4 := gb.law.press
 have gq5 := gb.note
 have gq6 := gj.t
 have gq7 := gj.r
 have gq8 := gj.u
 have gq9 := gj.d
 have gq10 := gj.a
 have gq11 := gj.b
 have gq12 := gj.le
 have gq13 := gj.me
 simp only [Bx.law, blankJ] at gq1 gq2 gq3 gq4 gq6 gq7 gq8 gq9 gq10 gq11 gq12 gq13
 have gq14 := gb.lows.1
 have gq15 := gb.highs.1
 have hQ0 := rgV_len [(b.u0, b.u1), (b.d0, b.d1), (b.a0, b.a1), (b.b0, b.b1)] (by intro p hp; simp only [List.mem_cons, List.not_mem_nil, or_false] at hp; rcases hp with rfl | rfl | rfl | rfl <;> exact ⟨⟨by dsimp only; omega, by dsimp only; omega⟩, by dsimp only; omega, by dsimp only; omega⟩)
 simp only [List.length_cons, List.length_nil] at hQ0
 have hQ1 := rgV_len [(b.t0, b.t1), (b.r0, b.r1)] (by intro p hp; simp only [List.mem_cons, List.not_mem_nil, or_false] at hp; rcases hp with rfl | rfl <;> exact ⟨⟨by dsimp only; omega, by dsimp only; omega⟩, by dsimp only; omega, by dsimp only; omega⟩)
 simp only [List.length_cons, List.length_nil] at hQ1
 have hP0 := nmV_len [b.le] (by intro p hp; simp only [List.mem_cons, List.not_mem_nil, or_false] at hp; rcases hp with rfl <;> exact ⟨by omega, by omega⟩)
 simp only [List.length_cons, List.length_nil] at hP0
 have hP1 := nmV_len [b.me] (by intro p hp; simp only [List.mem_cons, List.not_mem_nil, or_false] at hp; rcases hp with rfl <;> exact ⟨by omega, by omega⟩)
 simp only [List.length_cons, List.length_nil] at hP1
 refine Zsk ?_
 refine Zsr ?_
 refine Zg8 (v1 := (Zj g1)) (v2 := (Zj g1)) (v4 := (Zj g1)) (v5 := (.pointer (some ⟨g1, 1, none⟩))) (v7 := (Zj g1)) (v8 := (.pointer (some ⟨g1, 2, none⟩))) T (Zq (Zrf (off := 0) rfl (T.e 2 rfl) (fun _ _ _ => by kernel_rfl))) rfl (Zf 0 0 rfl rfl) rfl (Zo M 0 0 rfl rfl rfl rfl) rfl (Zf 0 5 rfl rfl) rfl (Zf 1 0 rfl rfl) rfl (Zo M 0 0 rfl rfl rfl rfl) rfl (Zf 0 8 rfl rfl) rfl (Zf 2 0 rfl rfl) rfl ?_; clear T ac; intro ac T
 refine Zg6 (v2 := (Zj g1)) (v3 := (.pointer (some ⟨g1, 3, none⟩))) (v5 := (.pointer (some ⟨g1, 4, none⟩))) T (Zq (Zro (Mem.nth M 0 rfl) rfl (T.e 0 rfl) rfl)) rfl (Zf 0 11 rfl rfl) rfl (Zf 3 0 rfl rfl) rfl (Zo M 0 0 rfl rfl rfl rfl) rfl (Zf 4 14 rfl rfl) rfl (Zo M 0 0 rfl rfl rfl rfl) rfl ?_; clear T ac; intro ac T
 refine Zl2 ?_
 refine ow_bs (e := 3) [Zi b.first, Zi b.step, Zi b.span, Zi b.press, Zi b.note] M T rfl rfl rfl rfl (.cons (T.e 11 rfl) (.cons (T.e 8 rfl) (.cons (T.e 5 rfl) (.cons (T.e 2 rfl) (.cons (T.e 0 rfl) .nil))))) (fun _ => by kernel_rfl) ?_; clear M T; intro g2 wc ac M T
 refine Zl2 ?_
 refine Zoc (first := []) (cap := []) T rfl rfl rfl rfl evf (.cons (T.e 0 rfl) .nil) Tryz.func40 rfl rfl ?_
 refine Calls.mono (vnumbers_any _ _ _ [b.first, b.step, b.span, b.press, b.note] _ (M.rdOwn (Zne (i := 0) rfl) rfl rfl) (by omega) (by intro p hp; simp only [List.mem_cons, List.not_mem_nil, or_false] at hp; rcases hp with rfl | rfl | rfl | rfl | rfl <;> exact ⟨by omega, by omega⟩) (hT.mem0 M)) ?_
 clear T; rintro e wc ⟨rfl, hb⟩ ac T
 replace M := M.call hb; clear hb
 have hru2 := nmV_len [b.first, b.step, b.span, b.press, b.note] (by intro p hp; simp only [List.mem_cons, List.not_mem_nil, or_false] at hp; rcases hp with rfl | rfl | rfl | rfl | rfl <;> exact ⟨by omega, by omega⟩)
 simp only [List.length_cons, List.length_nil] at hru2
 refine Zg3 T (Zq (rn_sadd rfl evc (T.e 0 rfl) (by (try simp only [List.length_append, List.length_cons, List.length_nil]); omega))) rfl (fun _ T => Zq (rn_sadd rfl (T.e 0 rfl) evc (by (try simp only [List.length_append, List.length_cons, List.length_nil]); omega))) rfl (Za 0 rfl rfl) rfl ?_; clear T ac; intro ac T
 refine wpList_nil ?_
 replace T := T.pick [0, 21] rfl
 replace M := M.mask [false, true] rfl
 refine Zns ?_
 refine Zsr ?_
 refine Zg4 (v1 := (.pointer (some ⟨g1, 5, none⟩))) T (Zq (Zrf (off := 5) rfl (T.e 1 rfl) (fun _ _ _ => by kernel_rfl))) rfl (Zo M 0 0 rfl rfl rfl rfl) rfl (Zl Tryz.underlying24 0 rfl rfl) rfl (fun _ T => Zq (Zrm rfl evc)) rfl ?_; clear T ac; intro ac T
 replace T := T.pick [0, 1, 2, 4, 5] rfl
 refine Zln ?_
 refine wp_block ?_
 obtain ⟨pre9, hpre9⟩ : ∃ q : List UInt8, q = ((([108, 97, 119]) ++ (nmV [b.first, b.step, b.span, b.press, b.note])) ++ ([10])) := ⟨_, rfl⟩
 rw [← hpre9] at T
 have lpre9 := congrArg List.length hpre9
 simp only [List.length_append, List.length_cons, List.length_nil] at lpre9
 refine wp_loop_n (fun mz ac wc => ∃ (k : Nat), mz = b.lows.length - k ∧ (k ≤ b.lows.length) ∧ (((b.lows.take k).flatMap (sndT lowW)).length ≤ k * 27) ∧ Tm ac 105 [(1, Zj g1), (5, sv (pre9 ++ (b.lows.take k).flatMap (sndT lowW))), (34, .slice A b.lows.length c), (35, Zi ((b.lows.length : Nat) : Int)), (36, Zi (k : Int))] ∧ Mem w noEx wc [(g1, .cells (bxM b (.slice A b.lows.length c) (.slice B b.highs.length d)))]) ?_ ?_
 ·have e0 : pre9 = pre9 ++ (b.lows.take 0).flatMap (sndT lowW) := by simp
  rw [e0] at T
  exact ⟨_, 0, rfl, (Nat.zero_le _), (Nat.le_refl _), T.pick [4, 3, 2, 1, 0] rfl, M.mask [true] rfl⟩
 clear T M
 rintro mz ac wc ⟨k, hmm1, hk, hspre9, T, M⟩
 refine Zsr ?_
 refine lq T (rn_lss rfl (T.e 4 rfl) (T.e 3 rfl)) ?_; clear T ac; intro ac T
 refine Zln ?_
 refine wp_seq ?_
 refine wp_if (T.e 0 rfl) ?_ ?_
 ·intro h2
  obtain ⟨x, hkx, -⟩ := sc_next (l := b.lows) (k := k) (by omega)
  have hx := gb.lows.2 _ (List.mem_of_getElem? hkx)
  have hx1 := hx.t
  have hx2 := hx.s
  have hS9 := sndT_len (w := lowW) (by decide) (b.lows.take (k + 1)) (fun p hp => gb.lows.2 p ((List.take_sublist _ _).subset hp))
  rw [List.length_take] at hS9
  refine Zsk ?_
  refine wp_seq ?_
  refine wp_block ?_
  refine Zsr ?_
  refine Zg2 (v2 := (.agg #[Zi x.t0, Zi x.t1, Zi x.s0, Zi x.s1])) T (Zq (Zri (size := 4) k rfl (T.e 3 rfl) (T.e 5 rfl) ⟨_, Tryz.underlying24, by kernel_rfl⟩ rfl (by omega) (SA.at0 (by omega)))) rfl (fun _ T => Zq (rn_rowat (Sp.scR4 SA M (Zz9 _) hkx) rfl (T.e 0 rfl) rfl)) rfl ?_; clear T ac; intro ac T
  refine Zl2 ?_
  refine Zoa M T rfl rfl rfl rfl ?_; clear M T; intro g3 wc ac M T
  refine Zl2 ?_
  refine Zos M T rfl rfl (T.e 0 rfl) (T.e 1 rfl) rfl .head rfl (by simp) rfl (by kernel_rfl) ?_; clear M T; intro wc ac M T
  replace T := T.pick [0, 4, 5, 6, 7, 8] rfl
  refine Zln ?_
  refine wp_region_lit ?_
  refine Zg5 (v2 := (Zj g3)) (v4 := (.pointer (some ⟨g3, 2, none⟩))) T (Zq (Zrm rfl (T.e 2 rfl))) rfl (Zf 0 1 rfl rfl) rfl (Zr M 0 0 rfl rfl rfl rfl) rfl (Zf 2 3 rfl rfl) rfl (Zr M 0 0 rfl rfl rfl rfl) rfl ?_; clear T ac; intro ac T
  refine Zl2 ?_
  refine ow_bs (e := 26) [Zi x.t0, Zi x.t1, Zi x.s0, Zi x.s1] M T rfl rfl rfl rfl (.cons (T.e 2 rfl) (.cons (T.e 0 rfl) .nil)) (fun _ => by kernel_rfl) ?_; clear M T; intro g4 wc ac M T
  refine Zl2 ?_
  refine Zoc (first := []) (cap := []) T rfl rfl rfl rfl evf (.cons (T.e 0 rfl) .nil) Tryz.func41 rfl rfl ?_
  refine Calls.mono (vranges_any _ _ _ ([(x.t0, x.t1), (x.s0, x.s1)]) _ (M.rdOwn (Zne (i := 0) rfl) rfl rfl) (by omega) (by intro p hp; simp only [List.mem_cons, List.not_mem_nil, or_false] at hp; rcases hp with rfl | rfl <;> exact ⟨⟨by dsimp only; omega, by dsimp only; omega⟩, by dsimp only; omega, by dsimp only; omega⟩) (hT.mem0 M)) ?_
  clear T; rintro e wc ⟨rfl, hb⟩ ac T
  replace M := M.call hb; clear hb
  have hru3 := rgV_len ([(x.t0, x.t1), (x.s0, x.s1)]) (by intro p hp; simp only [List.mem_cons, List.not_mem_nil, or_false] at hp; rcases hp with rfl | rfl <;> exact ⟨⟨by dsimp only; omega, by dsimp only; omega⟩, by dsimp only; omega, by dsimp only; omega⟩)
  simp only [List.length_cons, List.length_nil] at hru3
  refine Zg3 T (Zq (rn_sadd rfl evc (T.e 0 rfl) (by (try simp only [List.length_append, List.length_cons, List.length_nil]); omega))) rfl (fun _ T => Zq (rn_sadd rfl (T.e 0 rfl) evc (by (try simp only [List.length_append, List.length_cons, List.length_nil]); omega))) rfl (fun _ T => Zq (rn_sadd rfl (T.e 8 rfl) (T.e 0 rfl) (by (try simp only [List.length_append, List.length_cons, List.length_nil]); omega))) rfl ?_; clear T ac; intro ac T
  refine l_q (v := (sv ((pre9 ++ (b.lows.take k).flatMap (sndT lowW)) ++ ((([108, 111, 119]) ++ (rgV ([(x.t0, x.t1), (x.s0, x.s1)]))) ++ ([10]))))) (T.pick [0, 1, 2, 3, 4, 5, 6, 7, 8, 9, 10, 11, 13, 14, 15] rfl) rfl rfl rfl rfl (Zra rfl (T.e 0 rfl)) ?_; clear T ac; intro ac T
  refine wpList_nil ?_
  replace T := T.pick [0, 12, 13, 14, 15] rfl
  replace M := M.mask [false, false, true] rfl
  refine Znb ?_
  refine nm_then ?_
  refine wp_region_lit ?_
  refine lq T (rn_add rfl (T.e 4 rfl) evc (by omega)) ?_; clear T ac; intro ac T
  refine l_q (v := (Zi ((k : Int) + 1))) (T.pick [0, 1, 2, 3, 4] rfl) rfl rfl rfl rfl (Zrm rfl (T.e 0 rfl)) ?_; clear T ac; intro ac T
  replace T := T.pick [0, 2, 3, 4, 5] rfl
  refine Zln ?_
  have e9 : ((pre9 ++ (b.lows.take k).flatMap (sndT lowW)) ++ ((([108, 111, 119]) ++ (rgV ([(x.t0, x.t1), (x.s0, x.s1)]))) ++ ([10]))) = pre9 ++ (b.lows.take (k + 1)).flatMap (sndT lowW) := by rw [take_sn hkx, List.flatMap_append]; simp [sndT, lowW, rgV]
  rw [e9] at T
  exact ⟨_, by omega, k + 1, rfl, (by omega), (by omega), T.pick [2, 1, 3, 4, 0] rfl, M.mask [true] rfl⟩
 intro h2
 have ekpre9 : b.lows.take k = b.lows := List.take_of_length_le (by omega)
 refine wp_exit ?_
 refine Zet ?_
 refine Zet ?_
 refine ex_hit ?_
 refine Zns ?_
 refine Zsr ?_
 refine Zg4 (v1 := (.pointer (some ⟨g1, 6, none⟩))) T (Zq (Zrf (off := 6) rfl (T.e 1 rfl) (fun _ _ _ => by kernel_rfl))) rfl (Zo M 0 0 rfl rfl rfl rfl) rfl (Zl Tryz.underlying24 0 rfl rfl) rfl (fun _ T => Zq (Zrm rfl evc)) rfl ?_; clear T ac; intro ac T
 replace T := T.pick [0, 1, 2, 5, 6] rfl
 refine Zln ?_
 refine wp_block ?_
 obtain ⟨pre8, hpre8⟩ : ∃ q : List UInt8, q = (pre9 ++ (b.lows.take k).flatMap (sndT lowW)) := ⟨_, rfl⟩
 rw [← hpre8] at T
 have lpre8 := congrArg List.length hpre8
 simp only [List.length_append, List.length_cons, List.length_nil] at lpre8
 refine wp_loop_n (fun mz ac wc => ∃ (k : Nat), mz = b.highs.length - k ∧ (k ≤ b.highs.length) ∧ (((b.highs.take k).flatMap (sndT highW)).length ≤ k * 27) ∧ Tm ac 105 [(1, Zj g1), (5, sv (pre8 ++ (b.highs.take k).flatMap (sndT highW))), (52, .slice B b.highs.length d), (53, Zi ((b.highs.length : Nat) : Int)), (54, Zi (k : Int))] ∧ Mem w noEx wc [(g1, .cells (bxM b (.slice A b.lows.length c) (.slice B b.highs.length d)))]) ?_ ?_
 ·have e0 : pre8 = pre8 ++ (b.highs.take 0).flatMap (sndT highW) := by simp
  rw [e0] at T
  exact ⟨_, 0, rfl, (Nat.zero_le _), (Nat.le_refl _), T.pick [3, 4, 2, 1, 0] rfl, M.mask [true] rfl⟩
 clear T M
 rintro mz ac wc ⟨k, hmm2, hk, hspre8, T, M⟩
 refine Zsr ?_
 refine lq T (rn_lss rfl (T.e 4 rfl) (T.e 3 rfl)) ?_; clear T ac; intro ac T
 refine Zln ?_
 refine wp_seq ?_
 refine wp_if (T.e 0 rfl) ?_ ?_
 ·intro h3
  obtain ⟨x, hkx, -⟩ := sc_next (l := b.highs) (k := k) (by omega)
  have hx := gb.highs.2 _ (List.mem_of_getElem? hkx)
  have hx1 := hx.t
  have hx2 := hx.s
  have hS9 := sndT_len (w := highW) (by decide) (b.highs.take (k + 1)) (fun p hp => gb.highs.2 p ((List.take_sublist _ _).subset hp))
  rw [List.length_take] at hS9
  refine Zsk ?_
  refine wp_seq ?_
  refine wp_block ?_
  refine Zsr ?_
  refine Zg2 (v2 := (.agg #[Zi x.t0, Zi x.t1, Zi x.s0, Zi x.s1])) T (Zq (Zri (size := 4) k rfl (T.e 3 rfl) (T.e 5 rfl) ⟨_, Tryz.underlying24, by kernel_rfl⟩ rfl (by omega) (SB.at0 (by omega)))) rfl (fun _ T => Zq (rn_rowat (Sp.scR4 SB M (Zz9 _) hkx) rfl (T.e 0 rfl) rfl)) rfl ?_; clear T ac; intro ac T
  refine Zl2 ?_
  refine Zoa M T rfl rfl rfl rfl ?_; clear M T; intro g5 wc ac M T
  refine Zl2 ?_
  refine Zos M T rfl rfl (T.e 0 rfl) (T.e 1 rfl) rfl .head rfl (by simp) rfl (by kernel_rfl) ?_; clear M T; intro wc ac M T
  replace T := T.pick [0, 4, 5, 6, 7, 8] rfl
  refine Zln ?_
  refine wp_region_lit ?_
  refine Zg5 (v2 := (Zj g5)) (v4 := (.pointer (some ⟨g5, 2, none⟩))) T (Zq (Zrm rfl (T.e 2 rfl))) rfl (Zf 0 1 rfl rfl) rfl (Zr M 0 0 rfl rfl rfl rfl) rfl (Zf 2 3 rfl rfl) rfl (Zr M 0 0 rfl rfl rfl rfl) rfl ?_; clear T ac; intro ac T
  refine Zl2 ?_
  refine ow_bs (e := 26) [Zi x.t0, Zi x.t1, Zi x.s0, Zi x.s1] M T rfl rfl rfl rfl (.cons (T.e 2 rfl) (.cons (T.e 0 rfl) .nil)) (fun _ => by kernel_rfl) ?_; clear M T; intro g6 wc ac M T
  refine Zl2 ?_
  refine Zoc (first := []) (cap := []) T rfl rfl rfl rfl evf (.cons (T.e 0 rfl) .nil) Tryz.func41 rfl rfl ?_
  refine Calls.mono (vranges_any _ _ _ ([(x.t0, x.t1), (x.s0, x.s1)]) _ (M.rdOwn (Zne (i := 0) rfl) rfl rfl) (by omega) (by intro p hp; simp only [List.mem_cons, List.not_mem_nil, or_false] at hp; rcases hp with rfl | rfl <;> exact ⟨⟨by dsimp only; omega, by dsimp only; omega⟩, by dsimp only; omega, by dsimp only; omega⟩) (hT.mem0 M)) ?_
  clear T; rintro e wc ⟨rfl, hb⟩ ac T
  replace M := M.call hb; clear hb
  have hru4 := rgV_len ([(x.t0, x.t1), (x.s0, x.s1)]) (by intro p hp; simp only [List.mem_cons, List.not_mem_nil, or_false] at hp; rcases hp with rfl | rfl <;> exact ⟨⟨by dsimp only; omega, by dsimp only; omega⟩, by dsimp only; omega, by dsimp only; omega⟩)
  simp only [List.length_cons, List.length_nil] at hru4
  refine Zg3 T (Zq (rn_sadd rfl evc (T.e 0 rfl) (by (try simp only [List.length_append, List.length_cons, List.length_nil]); omega))) rfl (fun _ T => Zq (rn_sadd rfl (T.e 0 rfl) evc (by (try simp only [List.length_append, List.length_cons, List.length_nil]); omega))) rfl (fun _ T => Zq (rn_sadd rfl (T.e 8 rfl) (T.e 0 rfl) (by (try simp only [List.length_append, List.length_cons, List.length_nil]); omega))) rfl ?_; clear T ac; intro ac T
  refine l_q (v := (sv ((pre8 ++ (b.highs.take k).flatMap (sndT highW)) ++ ((([104, 105, 103, 104]) ++ (rgV ([(x.t0, x.t1), (x.s0, x.s1)]))) ++ ([10]))))) (T.pick [0, 1, 2, 3, 4, 5, 6, 7, 8, 9, 10, 11, 13, 14, 15] rfl) rfl rfl rfl rfl (Zra rfl (T.e 0 rfl)) ?_; clear T ac; intro ac T
  refine wpList_nil ?_
  replace T := T.pick [0, 12, 13, 14, 15] rfl
  replace M := M.mask [false, false, true] rfl
  refine Znb ?_
  refine nm_then ?_
  refine wp_region_lit ?_
  refine lq T (rn_add rfl (T.e 4 rfl) evc (by omega)) ?_; clear T ac; intro ac T
  refine l_q (v := (Zi ((k : Int) + 1))) (T.pick [0, 1, 2, 3, 4] rfl) rfl rfl rfl rfl (Zrm rfl (T.e 0 rfl)) ?_; clear T ac; intro ac T
  replace T := T.pick [0, 2, 3, 4, 5] rfl
  refine Zln ?_
  have e9 : ((pre8 ++ (b.highs.take k).flatMap (sndT highW)) ++ ((([104, 105, 103, 104]) ++ (rgV ([(x.t0, x.t1), (x.s0, x.s1)]))) ++ ([10]))) = pre8 ++ (b.highs.take (k + 1)).flatMap (sndT highW) := by rw [take_sn hkx, List.flatMap_append]; simp [sndT, highW, rgV]
  rw [e9] at T
  exact ⟨_, by omega, k + 1, rfl, (by omega), (by omega), T.pick [2, 1, 3, 4, 0] rfl, M.mask [true] rfl⟩
 intro h3
 have ekpre8 : b.highs.take k = b.highs := List.take_of_length_le (by omega)
 refine wp_exit ?_
 refine Zet ?_
 refine Zet ?_
 refine ex_hit ?_
 refine Zns ?_
 refine Zgs M (M.mask [true] rfl) 38 (by kernel_rfl) rfl (by kernel_rfl) ?_
 clear M; intro wc M
 refine g_have (fun ac wc => ∃ (gr15_32 gr15_27 gr15_20 gr15_14 : Nat), Tm ac 105 [(101, .slice (some ⟨gr15_32, 0, none⟩) 1 1), (98, sv (((((pre8 ++ (b.highs.take k).flatMap (sndT highW)) ++ ([102, 105, 108, 101])) ++ (rgV ([(b.u0, b.u1), (b.d0, b.d1), (b.a0, b.a1), (b.b0, b.b1)]))) ++ (nmV [b.le])) ++ (rgV ([(b.t0, b.t1), (b.r0, b.r1)]))))] ∧ Mem w noEx wc [(gr15_32, .cells [Zi b.me]), (gr15_27, .cells [Zi b.t0, Zi b.t1, Zi b.r0, Zi b.r1]), (gr15_20, .cells [Zi b.le]), (gr15_14, .cells [Zi b.u0, Zi b.u1, Zi b.d0, Zi b.d1, Zi b.a0, Zi b.a1, Zi b.b0, Zi b.b1]), (g1, .cells (bxM b (.slice A b.lows.length c) (.slice B b.highs.length d)))]) (Zpb 38 8589934591) 5 ?_ ?_
 ·clear T M
  rintro ac wc ⟨gr15_32, gr15_27, gr15_20, gr15_14, T, M⟩
  refine gw 33 17179869183 ?_; intro K hK
  refine Zoc (first := []) (cap := []) T rfl rfl rfl rfl evf (.cons (T.e 0 rfl) .nil) Tryz.func40 rfl rfl ?_
  refine Calls.mono (vnumbers_any _ _ _ [b.me] _ (M.rdOwn (Zne (i := 0) rfl) rfl rfl) (by omega) (by intro p hp; simp only [List.mem_cons, List.not_mem_nil, or_false] at hp; rcases hp with rfl <;> exact ⟨by omega, by omega⟩) (hT.mem0 M)) ?_
  clear T; rintro e wc ⟨rfl, hb⟩ ac T
  replace M := M.call hb; clear hb
  have hrur15_33 := nmV_len [b.me] (by intro p hp; simp only [List.mem_cons, List.not_mem_nil, or_false] at hp; rcases hp with rfl <;> exact ⟨by omega, by omega⟩)
  simp only [List.length_cons, List.length_nil] at hrur15_33
  refine Zso hK _ _ (M.mask [false, false, false, false, true] rfl) ?_; clear hK K
  refine gq T 34 34359738367 rfl (fun _ _ _ _ _ => (rn_sadd rfl (T.e 2 rfl) (T.e 0 rfl) (by (try simp only [List.length_append, List.length_cons, List.length_nil]); omega))) ?_; clear T ac; intro ac T
  refine gq T 35 68719476735 rfl (fun _ _ _ _ _ => (rn_sadd rfl (T.e 0 rfl) evc (by (try simp only [List.length_append, List.length_cons, List.length_nil]); omega))) ?_; clear T ac; intro ac T
  refine gq T 36 137438953471 rfl (fun _ _ _ _ _ => (Zra rfl (T.e 0 rfl))) ?_; clear T ac; intro ac T
  refine gq T 37 274877906943 rfl (fun _ _ _ _ _ => (Zra rfl evc)) ?_; clear T ac; intro ac T
  refine Zgd (by kernel_rfl) ?_
  replace T := T.pick [0, 1] rfl
  replace M := M.mask [false, false, false, false, false] rfl
  refine Znr ?_
  refine rt_2 T rfl (T.e 1 rfl) (T.e 0 rfl) ?_
  have e9 : (((((((pre8 ++ (b.highs.take k).flatMap (sndT highW)) ++ ([102, 105, 108, 101])) ++ (rgV ([(b.u0, b.u1), (b.d0, b.d1), (b.a0, b.a1), (b.b0, b.b1)]))) ++ (nmV [b.le])) ++ (rgV ([(b.t0, b.t1), (b.r0, b.r1)]))) ++ (nmV [b.me])) ++ ([10])) = wrV b := by unfold wrV; rw [if_pos (show checkB b = 0 by omega), ekpre8, hpre8, ekpre9, hpre9]; simp [writeV, lawW, fileV, rgV, nmV]
  have e8 : checkB b = 0 := by omega
  rw [e9, e8]
  exact ⟨rfl, M.below⟩
 intro H21
 refine g_have (fun ac wc => ∃ (gr15_20 gr15_27 gr15_32 gr15_14 : Nat), Tm ac 105 [(91, sv ((((pre8 ++ (b.highs.take k).flatMap (sndT highW)) ++ ([102, 105, 108, 101])) ++ (rgV ([(b.u0, b.u1), (b.d0, b.d1), (b.a0, b.a1), (b.b0, b.b1)]))) ++ (nmV [b.le]))), (96, .slice (some ⟨gr15_27, 0, none⟩) 2 2), (101, .slice (some ⟨gr15_32, 0, none⟩) 1 1)] ∧ Mem w noEx wc [(gr15_20, .cells [Zi b.le]), (gr15_27, .cells [Zi b.t0, Zi b.t1, Zi b.r0, Zi b.r1]), (gr15_32, .cells [Zi b.me]), (gr15_14, .cells [Zi b.u0, Zi b.u1, Zi b.d0, Zi b.d1, Zi b.a0, Zi b.a1, Zi b.b0, Zi b.b1]), (g1, .cells (bxM b (.slice A b.lows.length c) (.slice B b.highs.length d)))]) (Zpb 38 7784628223) 7 ?_ ?_
 ·clear T M
  rintro ac wc ⟨gr15_20, gr15_27, gr15_32, gr15_14, T, M⟩
  refine gw 28 8053063679 ?_; intro K hK
  refine Zoc (first := []) (cap := []) T rfl rfl rfl rfl evf (.cons (T.e 1 rfl) .nil) Tryz.func41 rfl rfl ?_
  refine Calls.mono (vranges_any _ _ _ ([(b.t0, b.t1), (b.r0, b.r1)]) _ (M.rdOwn (Zne (i := 1) rfl) rfl rfl) (by omega) (by intro p hp; simp only [List.mem_cons, List.not_mem_nil, or_false] at hp; rcases hp with rfl | rfl <;> exact ⟨⟨by dsimp only; omega, by dsimp only; omega⟩, by dsimp only; omega, by dsimp only; omega⟩) (hT.mem0 M)) ?_
  clear T; rintro e wc ⟨rfl, hb⟩ ac T
  replace M := M.call hb; clear hb
  have hrur15_28 := rgV_len ([(b.t0, b.t1), (b.r0, b.r1)]) (by intro p hp; simp only [List.mem_cons, List.not_mem_nil, or_false] at hp; rcases hp with rfl | rfl <;> exact ⟨⟨by dsimp only; omega, by dsimp only; omega⟩, by dsimp only; omega, by dsimp only; omega⟩)
  simp only [List.length_cons, List.length_nil] at hrur15_28
  refine Zso hK _ _ (M.mask [false, false, false, false, true] rfl) ?_; clear hK K
  refine gq T 29 8589934591 rfl (fun _ _ _ _ _ => (rn_sadd rfl (T.e 1 rfl) (T.e 0 rfl) (by (try simp only [List.length_append, List.length_cons, List.length_nil]); omega))) ?_; clear T ac; intro ac T
  exact H21 _ _ ⟨gr15_32, gr15_27, gr15_20, gr15_14, T.pick [4, 0] rfl, M.perm [2, 1, 0, 3, 4] rfl rfl⟩
 intro H20
 refine g_have (fun ac wc => ∃ (gr15_27 gr15_20 gr15_14 : Nat), Tm ac 105 [(96, .slice (some ⟨gr15_27, 0, none⟩) 2 2), (91, sv ((((pre8 ++ (b.highs.take k).flatMap (sndT highW)) ++ ([102, 105, 108, 101])) ++ (rgV ([(b.u0, b.u1), (b.d0, b.d1), (b.a0, b.a1), (b.b0, b.b1)]))) ++ (nmV [b.le]))), (100, Zi b.me)] ∧ Mem w noEx wc [(gr15_27, .cells [Zi b.t0, Zi b.t1, Zi b.r0, Zi b.r1]), (gr15_20, .cells [Zi b.le]), (gr15_14, .cells [Zi b.u0, Zi b.u1, Zi b.d0, Zi b.d1, Zi b.a0, Zi b.a1, Zi b.b0, Zi b.b1]), (g1, .cells (bxM b (.slice A b.lows.length c) (.slice B b.highs.length d)))]) (Zpb 38 3489660927) 8 ?_ ?_
 ·clear T M
  rintro ac wc ⟨gr15_27, gr15_20, gr15_14, T, M⟩
  refine g_m2 (i := 28) (j := 32) (by kernel_rfl) ?_ ?_
  ·refine gi 3758096383 ?_; intro K hK
   refine Zoc (first := []) (cap := []) T rfl rfl rfl rfl evf (.cons (T.e 0 rfl) .nil) Tryz.func41 rfl rfl ?_
   refine Calls.mono (vranges_any _ _ _ ([(b.t0, b.t1), (b.r0, b.r1)]) _ (M.rdOwn (Zne (i := 0) rfl) rfl rfl) (by omega) (by intro p hp; simp only [List.mem_cons, List.not_mem_nil, or_false] at hp; rcases hp with rfl | rfl <;> exact ⟨⟨by dsimp only; omega, by dsimp only; omega⟩, by dsimp only; omega, by dsimp only; omega⟩) (hT.mem0 M)) ?_
   clear T; rintro e wc ⟨rfl, hb⟩ ac T
   replace M := M.call hb; clear hb
   have hrur15_28 := rgV_len ([(b.t0, b.t1), (b.r0, b.r1)]) (by intro p hp; simp only [List.mem_cons, List.not_mem_nil, or_false] at hp; rcases hp with rfl | rfl <;> exact ⟨⟨by dsimp only; omega, by dsimp only; omega⟩, by dsimp only; omega, by dsimp only; omega⟩)
   simp only [List.length_cons, List.length_nil] at hrur15_28
   refine Zso hK _ _ (M.mask [false, false, false, true] rfl) ?_; clear hK K
   refine gq T 29 4294967295 rfl (fun _ _ _ _ _ => (rn_sadd rfl (T.e 2 rfl) (T.e 0 rfl) (by (try simp only [List.length_append, List.length_cons, List.length_nil]); omega))) ?_; clear T ac; intro ac T
   refine gw 32 8589934591 ?_; intro K hK
   refine ow_bs (e := 3) [Zi b.me] M T rfl rfl rfl rfl (.cons (T.e 4 rfl) .nil) (fun _ => by kernel_rfl) ?_; clear M T; intro gr15_32 wc ac M T
   refine Zso hK _ _ (M.mask [false, false, false, false, true] rfl) ?_; clear hK K
   exact H21 _ _ ⟨gr15_32, gr15_27, gr15_20, gr15_14, T.pick [0, 1] rfl, M⟩
  refine gi 7784628223 ?_; intro K hK
  refine ow_bs (e := 3) [Zi b.me] M T rfl rfl rfl rfl (.cons (T.e 2 rfl) .nil) (fun _ => by kernel_rfl) ?_; clear M T; intro gr15_32 wc ac M T
  refine Zso hK _ _ (M.mask [false, false, false, false, true] rfl) ?_; clear hK K
  exact H20 _ _ ⟨gr15_20, gr15_27, gr15_32, gr15_14, T.pick [2, 1, 0] rfl, M.perm [2, 1, 0, 3, 4] rfl rfl⟩
 intro H19
 refine g_have (fun ac wc => ∃ (gr15_32 gr15_20 gr15_14 : Nat), Tm ac 105 [(101, .slice (some ⟨gr15_32, 0, none⟩) 1 1), (91, sv ((((pre8 ++ (b.highs.take k).flatMap (sndT highW)) ++ ([102, 105, 108, 101])) ++ (rgV ([(b.u0, b.u1), (b.d0, b.d1), (b.a0, b.a1), (b.b0, b.b1)]))) ++ (nmV [b.le]))), (95, .agg #[Zi b.r0, Zi b.r1]), (93, .agg #[Zi b.t0, Zi b.t1])] ∧ Mem w noEx wc [(gr15_32, .cells [Zi b.me]), (gr15_20, .cells [Zi b.le]), (gr15_14, .cells [Zi b.u0, Zi b.u1, Zi b.d0, Zi b.d1, Zi b.a0, Zi b.a1, Zi b.b0, Zi b.b1]), (g1, .cells (bxM b (.slice A b.lows.length c) (.slice B b.highs.length d)))]) (Zpb 38 7650410495) 8 ?_ ?_
 ·clear T M
  rintro ac wc ⟨gr15_32, gr15_20, gr15_14, T, M⟩
  refine gw 27 7784628223 ?_; intro K hK
  refine ow_bs (e := 26) [Zi b.t0, Zi b.t1, Zi b.r0, Zi b.r1] M T rfl rfl rfl rfl (.cons (T.e 3 rfl) (.cons (T.e 2 rfl) .nil)) (fun _ => by kernel_rfl) ?_; clear M T; intro gr15_27 wc ac M T
  refine Zso hK _ _ (M.mask [false, false, false, false, true] rfl) ?_; clear hK K
  exact H20 _ _ ⟨gr15_20, gr15_27, gr15_32, gr15_14, T.pick [2, 0, 1] rfl, M.perm [2, 0, 1, 3, 4] rfl rfl⟩
 intro H18
 refine g_have (fun ac wc => ∃ (gr15_20 gr15_27 gr15_32 gr15_14 : Nat), Tm ac 105 [(85, sv (((pre8 ++ (b.highs.take k).flatMap (sndT highW)) ++ ([102, 105, 108, 101])) ++ (rgV ([(b.u0, b.u1), (b.d0, b.d1), (b.a0, b.a1), (b.b0, b.b1)])))), (89, .slice (some ⟨gr15_20, 0, none⟩) 1 1), (96, .slice (some ⟨gr15_27, 0, none⟩) 2 2), (101, .slice (some ⟨gr15_32, 0, none⟩) 1 1)] ∧ Mem w noEx wc [(gr15_20, .cells [Zi b.le]), (gr15_27, .cells [Zi b.t0, Zi b.t1, Zi b.r0, Zi b.r1]), (gr15_32, .cells [Zi b.me]), (gr15_14, .cells [Zi b.u0, Zi b.u1, Zi b.d0, Zi b.d1, Zi b.a0, Zi b.a1, Zi b.b0, Zi b.b1]), (g1, .cells (bxM b (.slice A b.lows.length c) (.slice B b.highs.length d)))]) (Zpb 38 7778336767) 9 ?_ ?_
 ·clear T M
  rintro ac wc ⟨gr15_20, gr15_27, gr15_32, gr15_14, T, M⟩
  refine gw 21 7780433919 ?_; intro K hK
  refine Zoc (first := []) (cap := []) T rfl rfl rfl rfl evf (.cons (T.e 1 rfl) .nil) Tryz.func40 rfl rfl ?_
  refine Calls.mono (vnumbers_any _ _ _ [b.le] _ (M.rdOwn (Zne (i := 0) rfl) rfl rfl) (by omega) (by intro p hp; simp only [List.mem_cons, List.not_mem_nil, or_false] at hp; rcases hp with rfl <;> exact ⟨by omega, by omega⟩) (hT.mem0 M)) ?_
  clear T; rintro e wc ⟨rfl, hb⟩ ac T
  replace M := M.call hb; clear hb
  have hrur15_21 := nmV_len [b.le] (by intro p hp; simp only [List.mem_cons, List.not_mem_nil, or_false] at hp; rcases hp with rfl <;> exact ⟨by omega, by omega⟩)
  simp only [List.length_cons, List.length_nil] at hrur15_21
  refine Zso hK _ _ (M.mask [false, false, false, false, true] rfl) ?_; clear hK K
  refine gq T 22 7784628223 rfl (fun _ _ _ _ _ => (rn_sadd rfl (T.e 1 rfl) (T.e 0 rfl) (by (try simp only [List.length_append, List.length_cons, List.length_nil]); omega))) ?_; clear T ac; intro ac T
  exact H20 _ _ ⟨gr15_20, gr15_27, gr15_32, gr15_14, T.pick [0, 4, 5] rfl, M⟩
 intro H17
 refine g_have (fun ac wc => ∃ (gr15_20 gr15_27 gr15_14 : Nat), Tm ac 105 [(85, sv (((pre8 ++ (b.highs.take k).flatMap (sndT highW)) ++ ([102, 105, 108, 101])) ++ (rgV ([(b.u0, b.u1), (b.d0, b.d1), (b.a0, b.a1), (b.b0, b.b1)])))), (89, .slice (some ⟨gr15_20, 0, none⟩) 1 1), (96, .slice (some ⟨gr15_27, 0, none⟩) 2 2), (100, Zi b.me)] ∧ Mem w noEx wc [(gr15_20, .cells [Zi b.le]), (gr15_27, .cells [Zi b.t0, Zi b.t1, Zi b.r0, Zi b.r1]), (gr15_14, .cells [Zi b.u0, Zi b.u1, Zi b.d0, Zi b.d1, Zi b.a0, Zi b.a1, Zi b.b0, Zi b.b1]), (g1, .cells (bxM b (.slice A b.lows.length c) (.slice B b.highs.length d)))]) (Zpb 38 3483369471) 10 ?_ ?_
 ·clear T M
  rintro ac wc ⟨gr15_20, gr15_27, gr15_14, T, M⟩
  refine g_m2 (i := 21) (j := 32) (by kernel_rfl) ?_ ?_
  ·refine gi 3485466623 ?_; intro K hK
   refine Zoc (first := []) (cap := []) T rfl rfl rfl rfl evf (.cons (T.e 1 rfl) .nil) Tryz.func40 rfl rfl ?_
   refine Calls.mono (vnumbers_any _ _ _ [b.le] _ (M.rdOwn (Zne (i := 0) rfl) rfl rfl) (by omega) (by intro p hp; simp only [List.mem_cons, List.not_mem_nil, or_false] at hp; rcases hp with rfl <;> exact ⟨by omega, by omega⟩) (hT.mem0 M)) ?_
   clear T; rintro e wc ⟨rfl, hb⟩ ac T
   replace M := M.call hb; clear hb
   have hrur15_21 := nmV_len [b.le] (by intro p hp; simp only [List.mem_cons, List.not_mem_nil, or_false] at hp; rcases hp with rfl <;> exact ⟨by omega, by omega⟩)
   simp only [List.length_cons, List.length_nil] at hrur15_21
   refine Zso hK _ _ (M.mask [false, false, false, true] rfl) ?_; clear hK K
   refine gq T 22 3489660927 rfl (fun _ _ _ _ _ => (rn_sadd rfl (T.e 1 rfl) (T.e 0 rfl) (by (try simp only [List.length_append, List.length_cons, List.length_nil]); omega))) ?_; clear T ac; intro ac T
   exact H19 _ _ ⟨gr15_27, gr15_20, gr15_14, T.pick [4, 0, 5] rfl, M.perm [1, 0, 2, 3] rfl rfl⟩
  refine gi 7778336767 ?_; intro K hK
  refine ow_bs (e := 3) [Zi b.me] M T rfl rfl rfl rfl (.cons (T.e 3 rfl) .nil) (fun _ => by kernel_rfl) ?_; clear M T; intro gr15_32 wc ac M T
  refine Zso hK _ _ (M.mask [false, false, false, false, true] rfl) ?_; clear hK K
  exact H17 _ _ ⟨gr15_20, gr15_27, gr15_32, gr15_14, T.pick [1, 2, 3, 0] rfl, M.perm [1, 2, 0, 3, 4] rfl rfl⟩
 intro H16
 refine g_have (fun ac wc => ∃ (gr15_20 gr15_32 gr15_14 : Nat), Tm ac 105 [(85, sv (((pre8 ++ (b.highs.take k).flatMap (sndT highW)) ++ ([102, 105, 108, 101])) ++ (rgV ([(b.u0, b.u1), (b.d0, b.d1), (b.a0, b.a1), (b.b0, b.b1)])))), (89, .slice (some ⟨gr15_20, 0, none⟩) 1 1), (101, .slice (some ⟨gr15_32, 0, none⟩) 1 1), (95, .agg #[Zi b.r0, Zi b.r1]), (93, .agg #[Zi b.t0, Zi b.t1])] ∧ Mem w noEx wc [(gr15_20, .cells [Zi b.le]), (gr15_32, .cells [Zi b.me]), (gr15_14, .cells [Zi b.u0, Zi b.u1, Zi b.d0, Zi b.d1, Zi b.a0, Zi b.a1, Zi b.b0, Zi b.b1]), (g1, .cells (bxM b (.slice A b.lows.length c) (.slice B b.highs.length d)))]) (Zpb 38 7644119039) 10 ?_ ?_
 ·clear T M
  rintro ac wc ⟨gr15_20, gr15_32, gr15_14, T, M⟩
  refine g_m2 (i := 21) (j := 27) (by kernel_rfl) ?_ ?_
  ·refine gi 7646216191 ?_; intro K hK
   refine Zoc (first := []) (cap := []) T rfl rfl rfl rfl evf (.cons (T.e 1 rfl) .nil) Tryz.func40 rfl rfl ?_
   refine Calls.mono (vnumbers_any _ _ _ [b.le] _ (M.rdOwn (Zne (i := 0) rfl) rfl rfl) (by omega) (by intro p hp; simp only [List.mem_cons, List.not_mem_nil, or_false] at hp; rcases hp with rfl <;> exact ⟨by omega, by omega⟩) (hT.mem0 M)) ?_
   clear T; rintro e wc ⟨rfl, hb⟩ ac T
   replace M := M.call hb; clear hb
   have hrur15_21 := nmV_len [b.le] (by intro p hp; simp only [List.mem_cons, List.not_mem_nil, or_false] at hp; rcases hp with rfl <;> exact ⟨by omega, by omega⟩)
   simp only [List.length_cons, List.length_nil] at hrur15_21
   refine Zso hK _ _ (M.mask [false, false, false, true] rfl) ?_; clear hK K
   refine gq T 22 7650410495 rfl (fun _ _ _ _ _ => (rn_sadd rfl (T.e 1 rfl) (T.e 0 rfl) (by (try simp only [List.length_append, List.length_cons, List.length_nil]); omega))) ?_; clear T ac; intro ac T
   exact H18 _ _ ⟨gr15_32, gr15_20, gr15_14, T.pick [4, 0, 5, 6] rfl, M.perm [1, 0, 2, 3] rfl rfl⟩
  refine gi 7778336767 ?_; intro K hK
  refine ow_bs (e := 26) [Zi b.t0, Zi b.t1, Zi b.r0, Zi b.r1] M T rfl rfl rfl rfl (.cons (T.e 4 rfl) (.cons (T.e 3 rfl) .nil)) (fun _ => by kernel_rfl) ?_; clear M T; intro gr15_27 wc ac M T
  refine Zso hK _ _ (M.mask [false, false, false, false, true] rfl) ?_; clear hK K
  exact H17 _ _ ⟨gr15_20, gr15_27, gr15_32, gr15_14, T.pick [1, 2, 0, 3] rfl, M.perm [1, 0, 2, 3, 4] rfl rfl⟩
 intro H15
 refine g_have (fun ac wc => ∃ (gr15_27 gr15_32 gr15_14 : Nat), Tm ac 105 [(85, sv (((pre8 ++ (b.highs.take k).flatMap (sndT highW)) ++ ([102, 105, 108, 101])) ++ (rgV ([(b.u0, b.u1), (b.d0, b.d1), (b.a0, b.a1), (b.b0, b.b1)])))), (96, .slice (some ⟨gr15_27, 0, none⟩) 2 2), (101, .slice (some ⟨gr15_32, 0, none⟩) 1 1), (88, Zi b.le)] ∧ Mem w noEx wc [(gr15_27, .cells [Zi b.t0, Zi b.t1, Zi b.r0, Zi b.r1]), (gr15_32, .cells [Zi b.me]), (gr15_14, .cells [Zi b.u0, Zi b.u1, Zi b.d0, Zi b.d1, Zi b.a0, Zi b.a1, Zi b.b0, Zi b.b1]), (g1, .cells (bxM b (.slice A b.lows.length c) (.slice B b.highs.length d)))]) (Zpb 38 7777288191) 10 ?_ ?_
 ·clear T M
  rintro ac wc ⟨gr15_27, gr15_32, gr15_14, T, M⟩
  refine gw 20 7778336767 ?_; intro K hK
  refine ow_bs (e := 3) [Zi b.le] M T rfl rfl rfl rfl (.cons (T.e 3 rfl) .nil) (fun _ => by kernel_rfl) ?_; clear M T; intro gr15_20 wc ac M T
  refine Zso hK _ _ (M.mask [false, false, false, false, true] rfl) ?_; clear hK K
  exact H17 _ _ ⟨gr15_20, gr15_27, gr15_32, gr15_14, T.pick [1, 0, 2, 3] rfl, M⟩
 intro H14
 refine g_have (fun ac wc => ∃ (gr15_20 gr15_14 : Nat), Tm ac 105 [(89, .slice (some ⟨gr15_20, 0, none⟩) 1 1), (85, sv (((pre8 ++ (b.highs.take k).flatMap (sndT highW)) ++ ([102, 105, 108, 101])) ++ (rgV ([(b.u0, b.u1), (b.d0, b.d1), (b.a0, b.a1), (b.b0, b.b1)])))), (100, Zi b.me), (95, .agg #[Zi b.r0, Zi b.r1]), (93, .agg #[Zi b.t0, Zi b.t1])] ∧ Mem w noEx wc [(gr15_20, .cells [Zi b.le]), (gr15_14, .cells [Zi b.u0, Zi b.u1, Zi b.d0, Zi b.d1, Zi b.a0, Zi b.a1, Zi b.b0, Zi b.b1]), (g1, .cells (bxM b (.slice A b.lows.length c) (.slice B b.highs.length d)))]) (Zpb 38 3349151743) 11 ?_ ?_
 ·clear T M
  rintro ac wc ⟨gr15_20, gr15_14, T, M⟩
  refine g_m3 (i := 21) (j := 27) (k := 32) (by kernel_rfl) ?_ ?_ ?_
  ·refine gi 3351248895 ?_; intro K hK
   refine Zoc (first := []) (cap := []) T rfl rfl rfl rfl evf (.cons (T.e 0 rfl) .nil) Tryz.func40 rfl rfl ?_
   refine Calls.mono (vnumbers_any _ _ _ [b.le] _ (M.rdOwn (Zne (i := 0) rfl) rfl rfl) (by omega) (by intro p hp; simp only [List.mem_cons, List.not_mem_nil, or_false] at hp; rcases hp with rfl <;> exact ⟨by omega, by omega⟩) (hT.mem0 M)) ?_
   clear T; rintro e wc ⟨rfl, hb⟩ ac T
   replace M := M.call hb; clear hb
   have hrur15_21 := nmV_len [b.le] (by intro p hp; simp only [List.mem_cons, List.not_mem_nil, or_false] at hp; rcases hp with rfl <;> exact ⟨by omega, by omega⟩)
   simp only [List.length_cons, List.length_nil] at hrur15_21
   refine Zso hK _ _ (M.mask [false, false, true] rfl) ?_; clear hK K
   refine gq T 22 3355443199 rfl (fun _ _ _ _ _ => (rn_sadd rfl (T.e 2 rfl) (T.e 0 rfl) (by (try simp only [List.length_append, List.length_cons, List.length_nil]); omega))) ?_; clear T ac; intro ac T
   refine g_m2 (i := 27) (j := 32) (by kernel_rfl) ?_ ?_
   ·refine gi 3489660927 ?_; intro K hK
    refine ow_bs (e := 26) [Zi b.t0, Zi b.t1, Zi b.r0, Zi b.r1] M T rfl rfl rfl rfl (.cons (T.e 6 rfl) (.cons (T.e 5 rfl) .nil)) (fun _ => by kernel_rfl) ?_; clear M T; intro gr15_27 wc ac M T
    refine Zso hK _ _ (M.mask [false, false, false, true] rfl) ?_; clear hK K
    exact H19 _ _ ⟨gr15_27, gr15_20, gr15_14, T.pick [0, 1, 5] rfl, M⟩
   refine gi 7650410495 ?_; intro K hK
   refine ow_bs (e := 3) [Zi b.me] M T rfl rfl rfl rfl (.cons (T.e 4 rfl) .nil) (fun _ => by kernel_rfl) ?_; clear M T; intro gr15_32 wc ac M T
   refine Zso hK _ _ (M.mask [false, false, false, true] rfl) ?_; clear hK K
   exact H18 _ _ ⟨gr15_32, gr15_20, gr15_14, T.pick [0, 1, 6, 7] rfl, M⟩
  ·refine gi 3483369471 ?_; intro K hK
   refine ow_bs (e := 26) [Zi b.t0, Zi b.t1, Zi b.r0, Zi b.r1] M T rfl rfl rfl rfl (.cons (T.e 4 rfl) (.cons (T.e 3 rfl) .nil)) (fun _ => by kernel_rfl) ?_; clear M T; intro gr15_27 wc ac M T
   refine Zso hK _ _ (M.mask [false, false, false, true] rfl) ?_; clear hK K
   exact H16 _ _ ⟨gr15_20, gr15_27, gr15_14, T.pick [2, 1, 0, 3] rfl, M.perm [1, 0, 2, 3] rfl rfl⟩
  refine gi 7644119039 ?_; intro K hK
  refine ow_bs (e := 3) [Zi b.me] M T rfl rfl rfl rfl (.cons (T.e 2 rfl) .nil) (fun _ => by kernel_rfl) ?_; clear M T; intro gr15_32 wc ac M T
  refine Zso hK _ _ (M.mask [false, false, false, true] rfl) ?_; clear hK K
  exact H15 _ _ ⟨gr15_20, gr15_32, gr15_14, T.pick [2, 1, 0, 4, 5] rfl, M.perm [1, 0, 2, 3] rfl rfl⟩
 intro H13
 refine g_have (fun ac wc => ∃ (gr15_27 gr15_14 : Nat), Tm ac 105 [(96, .slice (some ⟨gr15_27, 0, none⟩) 2 2), (85, sv (((pre8 ++ (b.highs.take k).flatMap (sndT highW)) ++ ([102, 105, 108, 101])) ++ (rgV ([(b.u0, b.u1), (b.d0, b.d1), (b.a0, b.a1), (b.b0, b.b1)])))), (100, Zi b.me), (88, Zi b.le)] ∧ Mem w noEx wc [(gr15_27, .cells [Zi b.t0, Zi b.t1, Zi b.r0, Zi b.r1]), (gr15_14, .cells [Zi b.u0, Zi b.u1, Zi b.d0, Zi b.d1, Zi b.a0, Zi b.a1, Zi b.b0, Zi b.b1]), (g1, .cells (bxM b (.slice A b.lows.length c) (.slice B b.highs.length d)))]) (Zpb 38 3482320895) 11 ?_ ?_
 ·clear T M
  rintro ac wc ⟨gr15_27, gr15_14, T, M⟩
  refine g_m2 (i := 20) (j := 32) (by kernel_rfl) ?_ ?_
  ·refine gi 3483369471 ?_; intro K hK
   refine ow_bs (e := 3) [Zi b.le] M T rfl rfl rfl rfl (.cons (T.e 3 rfl) .nil) (fun _ => by kernel_rfl) ?_; clear M T; intro gr15_20 wc ac M T
   refine Zso hK _ _ (M.mask [false, false, false, true] rfl) ?_; clear hK K
   exact H16 _ _ ⟨gr15_20, gr15_27, gr15_14, T.pick [2, 0, 1, 3] rfl, M⟩
  refine gi 7777288191 ?_; intro K hK
  refine ow_bs (e := 3) [Zi b.me] M T rfl rfl rfl rfl (.cons (T.e 2 rfl) .nil) (fun _ => by kernel_rfl) ?_; clear M T; intro gr15_32 wc ac M T
  refine Zso hK _ _ (M.mask [false, false, false, true] rfl) ?_; clear hK K
  exact H14 _ _ ⟨gr15_27, gr15_32, gr15_14, T.pick [2, 1, 0, 4] rfl, M.perm [1, 0, 2, 3] rfl rfl⟩
 intro H12
 refine g_have (fun ac wc => ∃ (gr15_32 gr15_14 : Nat), Tm ac 105 [(101, .slice (some ⟨gr15_32, 0, none⟩) 1 1), (85, sv (((pre8 ++ (b.highs.take k).flatMap (sndT highW)) ++ ([102, 105, 108, 101])) ++ (rgV ([(b.u0, b.u1), (b.d0, b.d1), (b.a0, b.a1), (b.b0, b.b1)])))), (95, .agg #[Zi b.r0, Zi b.r1]), (93, .agg #[Zi b.t0, Zi b.t1]), (88, Zi b.le)] ∧ Mem w noEx wc [(gr15_32, .cells [Zi b.me]), (gr15_14, .cells [Zi b.u0, Zi b.u1, Zi b.d0, Zi b.d1, Zi b.a0, Zi b.a1, Zi b.b0, Zi b.b1]), (g1, .cells (bxM b (.slice A b.lows.length c) (.slice B b.highs.length d)))]) (Zpb 38 7643070463) 11 ?_ ?_
 ·clear T M
  rintro ac wc ⟨gr15_32, gr15_14, T, M⟩
  refine g_m2 (i := 20) (j := 27) (by kernel_rfl) ?_ ?_
  ·refine gi 7644119039 ?_; intro K hK
   refine ow_bs (e := 3) [Zi b.le] M T rfl rfl rfl rfl (.cons (T.e 4 rfl) .nil) (fun _ => by kernel_rfl) ?_; clear M T; intro gr15_20 wc ac M T
   refine Zso hK _ _ (M.mask [false, false, false, true] rfl) ?_; clear hK K
   exact H15 _ _ ⟨gr15_20, gr15_32, gr15_14, T.pick [2, 0, 1, 3, 4] rfl, M⟩
  refine gi 7777288191 ?_; intro K hK
  refine ow_bs (e := 26) [Zi b.t0, Zi b.t1, Zi b.r0, Zi b.r1] M T rfl rfl rfl rfl (.cons (T.e 3 rfl) (.cons (T.e 2 rfl) .nil)) (fun _ => by kernel_rfl) ?_; clear M T; intro gr15_27 wc ac M T
  refine Zso hK _ _ (M.mask [false, false, false, true] rfl) ?_; clear hK K
  exact H14 _ _ ⟨gr15_27, gr15_32, gr15_14, T.pick [2, 0, 1, 5] rfl, M⟩
 intro H11
 refine g_have (fun ac wc => ∃ (gr15_20 gr15_27 gr15_32 gr15_14 : Nat), Tm ac 105 [(89, .slice (some ⟨gr15_20, 0, none⟩) 1 1), (96, .slice (some ⟨gr15_27, 0, none⟩) 2 2), (101, .slice (some ⟨gr15_32, 0, none⟩) 1 1), (83, .slice (some ⟨gr15_14, 0, none⟩) 4 4), (70, sv ((pre8 ++ (b.highs.take k).flatMap (sndT highW)) ++ ([102, 105, 108, 101])))] ∧ Mem w noEx wc [(gr15_20, .cells [Zi b.le]), (gr15_27, .cells [Zi b.t0, Zi b.t1, Zi b.r0, Zi b.r1]), (gr15_32, .cells [Zi b.me]), (gr15_14, .cells [Zi b.u0, Zi b.u1, Zi b.d0, Zi b.d1, Zi b.a0, Zi b.a1, Zi b.b0, Zi b.b1]), (g1, .cells (bxM b (.slice A b.lows.length c) (.slice B b.highs.length d)))]) (Zpb 38 7778238463) 11 ?_ ?_
 ·clear T M
  rintro ac wc ⟨gr15_20, gr15_27, gr15_32, gr15_14, T, M⟩
  refine gw 15 7778271231 ?_; intro K hK
  refine Zoc (first := []) (cap := []) T rfl rfl rfl rfl evf (.cons (T.e 3 rfl) .nil) Tryz.func41 rfl rfl ?_
  refine Calls.mono (vranges_any _ _ _ ([(b.u0, b.u1), (b.d0, b.d1), (b.a0, b.a1), (b.b0, b.b1)]) _ (M.rdOwn (Zne (i := 3) rfl) rfl rfl) (by omega) (by intro p hp; simp only [List.mem_cons, List.not_mem_nil, or_false] at hp; rcases hp with rfl | rfl | rfl | rfl <;> exact ⟨⟨by dsimp only; omega, by dsimp only; omega⟩, by dsimp only; omega, by dsimp only; omega⟩) (hT.mem0 M)) ?_
  clear T; rintro e wc ⟨rfl, hb⟩ ac T
  replace M := M.call hb; clear hb
  have hrur15_15 := rgV_len ([(b.u0, b.u1), (b.d0, b.d1), (b.a0, b.a1), (b.b0, b.b1)]) (by intro p hp; simp only [List.mem_cons, List.not_mem_nil, or_false] at hp; rcases hp with rfl | rfl | rfl | rfl <;> exact ⟨⟨by dsimp only; omega, by dsimp only; omega⟩, by dsimp only; omega, by dsimp only; omega⟩)
  simp only [List.length_cons, List.length_nil] at hrur15_15
  refine Zso hK _ _ (M.mask [false, false, false, false, true] rfl) ?_; clear hK K
  refine gq T 16 7778336767 rfl (fun _ _ _ _ _ => (rn_sadd rfl (T.e 5 rfl) (T.e 0 rfl) (by (try simp only [List.length_append, List.length_cons, List.length_nil]); omega))) ?_; clear T ac; intro ac T
  exact H17 _ _ ⟨gr15_20, gr15_27, gr15_32, gr15_14, T.pick [0, 2, 3, 4] rfl, M⟩
 intro H10
 refine g_have (fun ac wc => ∃ (gr15_20 gr15_27 gr15_14 : Nat), Tm ac 105 [(89, .slice (some ⟨gr15_20, 0, none⟩) 1 1), (96, .slice (some ⟨gr15_27, 0, none⟩) 2 2), (83, .slice (some ⟨gr15_14, 0, none⟩) 4 4), (100, Zi b.me), (70, sv ((pre8 ++ (b.highs.take k).flatMap (sndT highW)) ++ ([102, 105, 108, 101])))] ∧ Mem w noEx wc [(gr15_20, .cells [Zi b.le]), (gr15_27, .cells [Zi b.t0, Zi b.t1, Zi b.r0, Zi b.r1]), (gr15_14, .cells [Zi b.u0, Zi b.u1, Zi b.d0, Zi b.d1, Zi b.a0, Zi b.a1, Zi b.b0, Zi b.b1]), (g1, .cells (bxM b (.slice A b.lows.length c) (.slice B b.highs.length d)))]) (Zpb 38 3483271167) 12 ?_ ?_
 ·clear T M
  rintro ac wc ⟨gr15_20, gr15_27, gr15_14, T, M⟩
  refine g_m2 (i := 15) (j := 32) (by kernel_rfl) ?_ ?_
  ·refine gi 3483303935 ?_; intro K hK
   refine Zoc (first := []) (cap := []) T rfl rfl rfl rfl evf (.cons (T.e 2 rfl) .nil) Tryz.func41 rfl rfl ?_
   refine Calls.mono (vranges_any _ _ _ ([(b.u0, b.u1), (b.d0, b.d1), (b.a0, b.a1), (b.b0, b.b1)]) _ (M.rdOwn (Zne (i := 2) rfl) rfl rfl) (by omega) (by intro p hp; simp only [List.mem_cons, List.not_mem_nil, or_false] at hp; rcases hp with rfl | rfl | rfl | rfl <;> exact ⟨⟨by dsimp only; omega, by dsimp only; omega⟩, by dsimp only; omega, by dsimp only; omega⟩) (hT.mem0 M)) ?_
   clear T; rintro e wc ⟨rfl, hb⟩ ac T
   replace M := M.call hb; clear hb
   have hrur15_15 := rgV_len ([(b.u0, b.u1), (b.d0, b.d1), (b.a0, b.a1), (b.b0, b.b1)]) (by intro p hp; simp only [List.mem_cons, List.not_mem_nil, or_false] at hp; rcases hp with rfl | rfl | rfl | rfl <;> exact ⟨⟨by dsimp only; omega, by dsimp only; omega⟩, by dsimp only; omega, by dsimp only; omega⟩)
   simp only [List.length_cons, List.length_nil] at hrur15_15
   refine Zso hK _ _ (M.mask [false, false, false, true] rfl) ?_; clear hK K
   refine gq T 16 3483369471 rfl (fun _ _ _ _ _ => (rn_sadd rfl (T.e 5 rfl) (T.e 0 rfl) (by (try simp only [List.length_append, List.length_cons, List.length_nil]); omega))) ?_; clear T ac; intro ac T
   exact H16 _ _ ⟨gr15_20, gr15_27, gr15_14, T.pick [0, 2, 3, 5] rfl, M⟩
  refine gi 7778238463 ?_; intro K hK
  refine ow_bs (e := 3) [Zi b.me] M T rfl rfl rfl rfl (.cons (T.e 3 rfl) .nil) (fun _ => by kernel_rfl) ?_; clear M T; intro gr15_32 wc ac M T
  refine Zso hK _ _ (M.mask [false, false, false, false, true] rfl) ?_; clear hK K
  exact H10 _ _ ⟨gr15_20, gr15_27, gr15_32, gr15_14, T.pick [1, 2, 0, 3, 5] rfl, M.perm [1, 2, 0, 3, 4] rfl rfl⟩
 intro H9
 refine g_have (fun ac wc => ∃ (gr15_20 gr15_32 gr15_14 : Nat), Tm ac 105 [(89, .slice (some ⟨gr15_20, 0, none⟩) 1 1), (101, .slice (some ⟨gr15_32, 0, none⟩) 1 1), (83, .slice (some ⟨gr15_14, 0, none⟩) 4 4), (95, .agg #[Zi b.r0, Zi b.r1]), (93, .agg #[Zi b.t0, Zi b.t1]), (70, sv ((pre8 ++ (b.highs.take k).flatMap (sndT highW)) ++ ([102, 105, 108, 101])))] ∧ Mem w noEx wc [(gr15_20, .cells [Zi b.le]), (gr15_32, .cells [Zi b.me]), (gr15_14, .cells [Zi b.u0, Zi b.u1, Zi b.d0, Zi b.d1, Zi b.a0, Zi b.a1, Zi b.b0, Zi b.b1]), (g1, .cells (bxM b (.slice A b.lows.length c) (.slice B b.highs.length d)))]) (Zpb 38 7644020735) 12 ?_ ?_
 ·clear T M
  rintro ac wc ⟨gr15_20, gr15_32, gr15_14, T, M⟩
  refine g_m2 (i := 15) (j := 27) (by kernel_rfl) ?_ ?_
  ·refine gi 7644053503 ?_; intro K hK
   refine Zoc (first := []) (cap := []) T rfl rfl rfl rfl evf (.cons (T.e 2 rfl) .nil) Tryz.func41 rfl rfl ?_
   refine Calls.mono (vranges_any _ _ _ ([(b.u0, b.u1), (b.d0, b.d1), (b.a0, b.a1), (b.b0, b.b1)]) _ (M.rdOwn (Zne (i := 2) rfl) rfl rfl) (by omega) (by intro p hp; simp only [List.mem_cons, List.not_mem_nil, or_false] at hp; rcases hp with rfl | rfl | rfl | rfl <;> exact ⟨⟨by dsimp only; omega, by dsimp only; omega⟩, by dsimp only; omega, by dsimp only; omega⟩) (hT.mem0 M)) ?_
   clear T; rintro e wc ⟨rfl, hb⟩ ac T
   replace M := M.call hb; clear hb
   have hrur15_15 := rgV_len ([(b.u0, b.u1), (b.d0, b.d1), (b.a0, b.a1), (b.b0, b.b1)]) (by intro p hp; simp only [List.mem_cons, List.not_mem_nil, or_false] at hp; rcases hp with rfl | rfl | rfl | rfl <;> exact ⟨⟨by dsimp only; omega, by dsimp only; omega⟩, by dsimp only; omega, by dsimp only; omega⟩)
   simp only [List.length_cons, List.length_nil] at hrur15_15
   refine Zso hK _ _ (M.mask [false, false, false, true] rfl) ?_; clear hK K
   refine gq T 16 7644119039 rfl (fun _ _ _ _ _ => (rn_sadd rfl (T.e 6 rfl) (T.e 0 rfl) (by (try simp only [List.length_append, List.length_cons, List.length_nil]); omega))) ?_; clear T ac; intro ac T
   exact H15 _ _ ⟨gr15_20, gr15_32, gr15_14, T.pick [0, 2, 3, 5, 6] rfl, M⟩
  refine gi 7778238463 ?_; intro K hK
  refine ow_bs (e := 26) [Zi b.t0, Zi b.t1, Zi b.r0, Zi b.r1] M T rfl rfl rfl rfl (.cons (T.e 4 rfl) (.cons (T.e 3 rfl) .nil)) (fun _ => by kernel_rfl) ?_; clear M T; intro gr15_27 wc ac M T
  refine Zso hK _ _ (M.mask [false, false, false, false, true] rfl) ?_; clear hK K
  exact H10 _ _ ⟨gr15_20, gr15_27, gr15_32, gr15_14, T.pick [1, 0, 2, 3, 6] rfl, M.perm [1, 0, 2, 3, 4] rfl rfl⟩
 intro H8
 refine g_have (fun ac wc => ∃ (gr15_27 gr15_32 gr15_20 : Nat), Tm ac 105 [(96, .slice (some ⟨gr15_27, 0, none⟩) 2 2), (101, .slice (some ⟨gr15_32, 0, none⟩) 1 1), (89, .slice (some ⟨gr15_20, 0, none⟩) 1 1), (82, .agg #[Zi b.b0, Zi b.b1]), (79, .agg #[Zi b.a0, Zi b.a1]), (76, .agg #[Zi b.d0, Zi b.d1]), (73, .agg #[Zi b.u0, Zi b.u1]), (70, sv ((pre8 ++ (b.highs.take k).flatMap (sndT highW)) ++ ([102, 105, 108, 101])))] ∧ Mem w noEx wc [(gr15_27, .cells [Zi b.t0, Zi b.t1, Zi b.r0, Zi b.r1]), (gr15_32, .cells [Zi b.me]), (gr15_20, .cells [Zi b.le]), (g1, .cells (bxM b (.slice A b.lows.length c) (.slice B b.highs.length d)))]) (Zpb 38 7778222079) 12 ?_ ?_
 ·clear T M
  rintro ac wc ⟨gr15_27, gr15_32, gr15_20, T, M⟩
  refine gw 14 7778238463 ?_; intro K hK
  refine ow_bs (e := 26) [Zi b.u0, Zi b.u1, Zi b.d0, Zi b.d1, Zi b.a0, Zi b.a1, Zi b.b0, Zi b.b1] M T rfl rfl rfl rfl (.cons (T.e 6 rfl) (.cons (T.e 5 rfl) (.cons (T.e 4 rfl) (.cons (T.e 3 rfl) .nil)))) (fun _ => by kernel_rfl) ?_; clear M T; intro gr15_14 wc ac M T
  refine Zso hK _ _ (M.mask [false, false, false, false, true] rfl) ?_; clear hK K
  exact H10 _ _ ⟨gr15_20, gr15_27, gr15_32, gr15_14, T.pick [3, 1, 2, 0, 8] rfl, M.perm [3, 1, 2, 0, 4] rfl rfl⟩
 intro H7
 refine g_have (fun ac wc => ∃ (gr15_27 gr15_32 gr15_14 : Nat), Tm ac 105 [(96, .slice (some ⟨gr15_27, 0, none⟩) 2 2), (101, .slice (some ⟨gr15_32, 0, none⟩) 1 1), (83, .slice (some ⟨gr15_14, 0, none⟩) 4 4), (88, Zi b.le), (70, sv ((pre8 ++ (b.highs.take k).flatMap (sndT highW)) ++ ([102, 105, 108, 101])))] ∧ Mem w noEx wc [(gr15_27, .cells [Zi b.t0, Zi b.t1, Zi b.r0, Zi b.r1]), (gr15_32, .cells [Zi b.me]), (gr15_14, .cells [Zi b.u0, Zi b.u1, Zi b.d0, Zi b.d1, Zi b.a0, Zi b.a1, Zi b.b0, Zi b.b1]), (g1, .cells (bxM b (.slice A b.lows.length c) (.slice B b.highs.length d)))]) (Zpb 38 7777189887) 12 ?_ ?_
 ·clear T M
  rintro ac wc ⟨gr15_27, gr15_32, gr15_14, T, M⟩
  refine g_m2 (i := 15) (j := 20) (by kernel_rfl) ?_ ?_
  ·refine gi 7777222655 ?_; intro K hK
   refine Zoc (first := []) (cap := []) T rfl rfl rfl rfl evf (.cons (T.e 2 rfl) .nil) Tryz.func41 rfl rfl ?_
   refine Calls.mono (vranges_any _ _ _ ([(b.u0, b.u1), (b.d0, b.d1), (b.a0, b.a1), (b.b0, b.b1)]) _ (M.rdOwn (Zne (i := 2) rfl) rfl rfl) (by omega) (by intro p hp; simp only [List.mem_cons, List.not_mem_nil, or_false] at hp; rcases hp with rfl | rfl | rfl | rfl <;> exact ⟨⟨by dsimp only; omega, by dsimp only; omega⟩, by dsimp only; omega, by dsimp only; omega⟩) (hT.mem0 M)) ?_
   clear T; rintro e wc ⟨rfl, hb⟩ ac T
   replace M := M.call hb; clear hb
   have hrur15_15 := rgV_len ([(b.u0, b.u1), (b.d0, b.d1), (b.a0, b.a1), (b.b0, b.b1)]) (by intro p hp; simp only [List.mem_cons, List.not_mem_nil, or_false] at hp; rcases hp with rfl | rfl | rfl | rfl <;> exact ⟨⟨by dsimp only; omega, by dsimp only; omega⟩, by dsimp only; omega, by dsimp only; omega⟩)
   simp only [List.length_cons, List.length_nil] at hrur15_15
   refine Zso hK _ _ (M.mask [false, false, false, true] rfl) ?_; clear hK K
   refine gq T 16 7777288191 rfl (fun _ _ _ _ _ => (rn_sadd rfl (T.e 5 rfl) (T.e 0 rfl) (by (try simp only [List.length_append, List.length_cons, List.length_nil]); omega))) ?_; clear T ac; intro ac T
   exact H14 _ _ ⟨gr15_27, gr15_32, gr15_14, T.pick [0, 2, 3, 5] rfl, M⟩
  refine gi 7778238463 ?_; intro K hK
  refine ow_bs (e := 3) [Zi b.le] M T rfl rfl rfl rfl (.cons (T.e 3 rfl) .nil) (fun _ => by kernel_rfl) ?_; clear M T; intro gr15_20 wc ac M T
  refine Zso hK _ _ (M.mask [false, false, false, false, true] rfl) ?_; clear hK K
  exact H10 _ _ ⟨gr15_20, gr15_27, gr15_32, gr15_14, T.pick [0, 1, 2, 3, 5] rfl, M⟩
 intro H6
 refine g_have (fun ac wc => ∃ (gr15_20 gr15_14 : Nat), Tm ac 105 [(89, .slice (some ⟨gr15_20, 0, none⟩) 1 1), (83, .slice (some ⟨gr15_14, 0, none⟩) 4 4), (100, Zi b.me), (95, .agg #[Zi b.r0, Zi b.r1]), (93, .agg #[Zi b.t0, Zi b.t1]), (70, sv ((pre8 ++ (b.highs.take k).flatMap (sndT highW)) ++ ([102, 105, 108, 101])))] ∧ Mem w noEx wc [(gr15_20, .cells [Zi b.le]), (gr15_14, .cells [Zi b.u0, Zi b.u1, Zi b.d0, Zi b.d1, Zi b.a0, Zi b.a1, Zi b.b0, Zi b.b1]), (g1, .cells (bxM b (.slice A b.lows.length c) (.slice B b.highs.length d)))]) (Zpb 38 3349053439) 13 ?_ ?_
 ·clear T M
  rintro ac wc ⟨gr15_20, gr15_14, T, M⟩
  refine g_m3 (i := 15) (j := 27) (k := 32) (by kernel_rfl) ?_ ?_ ?_
  ·refine gi 3349086207 ?_; intro K hK
   refine Zoc (first := []) (cap := []) T rfl rfl rfl rfl evf (.cons (T.e 1 rfl) .nil) Tryz.func41 rfl rfl ?_
   refine Calls.mono (vranges_any _ _ _ ([(b.u0, b.u1), (b.d0, b.d1), (b.a0, b.a1), (b.b0, b.b1)]) _ (M.rdOwn (Zne (i := 1) rfl) rfl rfl) (by omega) (by intro p hp; simp only [List.mem_cons, List.not_mem_nil, or_false] at hp; rcases hp with rfl | rfl | rfl | rfl <;> exact ⟨⟨by dsimp only; omega, by dsimp only; omega⟩, by dsimp only; omega, by dsimp only; omega⟩) (hT.mem0 M)) ?_
   clear T; rintro e wc ⟨rfl, hb⟩ ac T
   replace M := M.call hb; clear hb
   have hrur15_15 := rgV_len ([(b.u0, b.u1), (b.d0, b.d1), (b.a0, b.a1), (b.b0, b.b1)]) (by intro p hp; simp only [List.mem_cons, List.not_mem_nil, or_false] at hp; rcases hp with rfl | rfl | rfl | rfl <;> exact ⟨⟨by dsimp only; omega, by dsimp only; omega⟩, by dsimp only; omega, by dsimp only; omega⟩)
   simp only [List.length_cons, List.length_nil] at hrur15_15
   refine Zso hK _ _ (M.mask [false, false, true] rfl) ?_; clear hK K
   refine gq T 16 3349151743 rfl (fun _ _ _ _ _ => (rn_sadd rfl (T.e 6 rfl) (T.e 0 rfl) (by (try simp only [List.length_append, List.length_cons, List.length_nil]); omega))) ?_; clear T ac; intro ac T
   exact H13 _ _ ⟨gr15_20, gr15_14, T.pick [2, 0, 4, 5, 6] rfl, M⟩
  ·refine gi 3483271167 ?_; intro K hK
   refine ow_bs (e := 26) [Zi b.t0, Zi b.t1, Zi b.r0, Zi b.r1] M T rfl rfl rfl rfl (.cons (T.e 4 rfl) (.cons (T.e 3 rfl) .nil)) (fun _ => by kernel_rfl) ?_; clear M T; intro gr15_27 wc ac M T
   refine Zso hK _ _ (M.mask [false, false, false, true] rfl) ?_; clear hK K
   exact H9 _ _ ⟨gr15_20, gr15_27, gr15_14, T.pick [1, 0, 2, 3, 6] rfl, M.perm [1, 0, 2, 3] rfl rfl⟩
  refine gi 7644020735 ?_; intro K hK
  refine ow_bs (e := 3) [Zi b.me] M T rfl rfl rfl rfl (.cons (T.e 2 rfl) .nil) (fun _ => by kernel_rfl) ?_; clear M T; intro gr15_32 wc ac M T
  refine Zso hK _ _ (M.mask [false, false, false, true] rfl) ?_; clear hK K
  exact H8 _ _ ⟨gr15_20, gr15_32, gr15_14, T.pick [1, 0, 2, 4, 5, 6] rfl, M.perm [1, 0, 2, 3] rfl rfl⟩
 intro H5
 refine g_have (fun ac wc => ∃ (gr15_27 gr15_20 : Nat), Tm ac 105 [(96, .slice (some ⟨gr15_27, 0, none⟩) 2 2), (89, .slice (some ⟨gr15_20, 0, none⟩) 1 1), (100, Zi b.me), (82, .agg #[Zi b.b0, Zi b.b1]), (79, .agg #[Zi b.a0, Zi b.a1]), (76, .agg #[Zi b.d0, Zi b.d1]), (73, .agg #[Zi b.u0, Zi b.u1]), (70, sv ((pre8 ++ (b.highs.take k).flatMap (sndT highW)) ++ ([102, 105, 108, 101])))] ∧ Mem w noEx wc [(gr15_27, .cells [Zi b.t0, Zi b.t1, Zi b.r0, Zi b.r1]), (gr15_20, .cells [Zi b.le]), (g1, .cells (bxM b (.slice A b.lows.length c) (.slice B b.highs.length d)))]) (Zpb 38 3483254783) 13 ?_ ?_
 ·clear T M
  rintro ac wc ⟨gr15_27, gr15_20, T, M⟩
  refine g_m2 (i := 14) (j := 32) (by kernel_rfl) ?_ ?_
  ·refine gi 3483271167 ?_; intro K hK
   refine ow_bs (e := 26) [Zi b.u0, Zi b.u1, Zi b.d0, Zi b.d1, Zi b.a0, Zi b.a1, Zi b.b0, Zi b.b1] M T rfl rfl rfl rfl (.cons (T.e 6 rfl) (.cons (T.e 5 rfl) (.cons (T.e 4 rfl) (.cons (T.e 3 rfl) .nil)))) (fun _ => by kernel_rfl) ?_; clear M T; intro gr15_14 wc ac M T
   refine Zso hK _ _ (M.mask [false, false, false, true] rfl) ?_; clear hK K
   exact H9 _ _ ⟨gr15_20, gr15_27, gr15_14, T.pick [2, 1, 0, 3, 8] rfl, M.perm [2, 1, 0, 3] rfl rfl⟩
  refine gi 7778222079 ?_; intro K hK
  refine ow_bs (e := 3) [Zi b.me] M T rfl rfl rfl rfl (.cons (T.e 2 rfl) .nil) (fun _ => by kernel_rfl) ?_; clear M T; intro gr15_32 wc ac M T
  refine Zso hK _ _ (M.mask [false, false, false, true] rfl) ?_; clear hK K
  exact H7 _ _ ⟨gr15_27, gr15_32, gr15_20, T.pick [1, 0, 2, 4, 5, 6, 7, 8] rfl, M.perm [1, 0, 2, 3] rfl rfl⟩
 intro H4
 refine g_have (fun ac wc => ∃ (gr15_27 gr15_14 : Nat), Tm ac 105 [(96, .slice (some ⟨gr15_27, 0, none⟩) 2 2), (83, .slice (some ⟨gr15_14, 0, none⟩) 4 4), (100, Zi b.me), (88, Zi b.le), (70, sv ((pre8 ++ (b.highs.take k).flatMap (sndT highW)) ++ ([102, 105, 108, 101])))] ∧ Mem w noEx wc [(gr15_27, .cells [Zi b.t0, Zi b.t1, Zi b.r0, Zi b.r1]), (gr15_14, .cells [Zi b.u0, Zi b.u1, Zi b.d0, Zi b.d1, Zi b.a0, Zi b.a1, Zi b.b0, Zi b.b1]), (g1, .cells (bxM b (.slice A b.lows.length c) (.slice B b.highs.length d)))]) (Zpb 38 3482222591) 13 ?_ ?_
 ·clear T M
  rintro ac wc ⟨gr15_27, gr15_14, T, M⟩
  refine g_m3 (i := 15) (j := 20) (k := 32) (by kernel_rfl) ?_ ?_ ?_
  ·refine gi 3482255359 ?_; intro K hK
   refine Zoc (first := []) (cap := []) T rfl rfl rfl rfl evf (.cons (T.e 1 rfl) .nil) Tryz.func41 rfl rfl ?_
   refine Calls.mono (vranges_any _ _ _ ([(b.u0, b.u1), (b.d0, b.d1), (b.a0, b.a1), (b.b0, b.b1)]) _ (M.rdOwn (Zne (i := 1) rfl) rfl rfl) (by omega) (by intro p hp; simp only [List.mem_cons, List.not_mem_nil, or_false] at hp; rcases hp with rfl | rfl | rfl | rfl <;> exact ⟨⟨by dsimp only; omega, by dsimp only; omega⟩, by dsimp only; omega, by dsimp only; omega⟩) (hT.mem0 M)) ?_
   clear T; rintro e wc ⟨rfl, hb⟩ ac T
   replace M := M.call hb; clear hb
   have hrur15_15 := rgV_len ([(b.u0, b.u1), (b.d0, b.d1), (b.a0, b.a1), (b.b0, b.b1)]) (by intro p hp; simp only [List.mem_cons, List.not_mem_nil, or_false] at hp; rcases hp with rfl | rfl | rfl | rfl <;> exact ⟨⟨by dsimp only; omega, by dsimp only; omega⟩, by dsimp only; omega, by dsimp only; omega⟩)
   simp only [List.length_cons, List.length_nil] at hrur15_15
   refine Zso hK _ _ (M.mask [false, false, true] rfl) ?_; clear hK K
   refine gq T 16 3482320895 rfl (fun _ _ _ _ _ => (rn_sadd rfl (T.e 5 rfl) (T.e 0 rfl) (by (try simp only [List.length_append, List.length_cons, List.length_nil]); omega))) ?_; clear T ac; intro ac T
   exact H12 _ _ ⟨gr15_27, gr15_14, T.pick [2, 0, 4, 5] rfl, M⟩
  ·refine gi 3483271167 ?_; intro K hK
   refine ow_bs (e := 3) [Zi b.le] M T rfl rfl rfl rfl (.cons (T.e 3 rfl) .nil) (fun _ => by kernel_rfl) ?_; clear M T; intro gr15_20 wc ac M T
   refine Zso hK _ _ (M.mask [false, false, false, true] rfl) ?_; clear hK K
   exact H9 _ _ ⟨gr15_20, gr15_27, gr15_14, T.pick [0, 1, 2, 3, 5] rfl, M⟩
  refine gi 7777189887 ?_; intro K hK
  refine ow_bs (e := 3) [Zi b.me] M T rfl rfl rfl rfl (.cons (T.e 2 rfl) .nil) (fun _ => by kernel_rfl) ?_; clear M T; intro gr15_32 wc ac M T
  refine Zso hK _ _ (M.mask [false, false, false, true] rfl) ?_; clear hK K
  exact H6 _ _ ⟨gr15_27, gr15_32, gr15_14, T.pick [1, 0, 2, 4, 5] rfl, M.perm [1, 0, 2, 3] rfl rfl⟩
 intro H3
 refine g_have (fun ac wc => ∃ (gr15_32 gr15_27 : Nat), Tm ac 105 [(101, .slice (some ⟨gr15_32, 0, none⟩) 1 1), (96, .slice (some ⟨gr15_27, 0, none⟩) 2 2), (88, Zi b.le), (82, .agg #[Zi b.b0, Zi b.b1]), (79, .agg #[Zi b.a0, Zi b.a1]), (76, .agg #[Zi b.d0, Zi b.d1]), (73, .agg #[Zi b.u0, Zi b.u1]), (70, sv ((pre8 ++ (b.highs.take k).flatMap (sndT highW)) ++ ([102, 105, 108, 101])))] ∧ Mem w noEx wc [(gr15_32, .cells [Zi b.me]), (gr15_27, .cells [Zi b.t0, Zi b.t1, Zi b.r0, Zi b.r1]), (g1, .cells (bxM b (.slice A b.lows.length c) (.slice B b.highs.length d)))]) (Zpb 38 7777173503) 13 ?_ ?_
 ·clear T M
  rintro ac wc ⟨gr15_32, gr15_27, T, M⟩
  refine g_m2 (i := 14) (j := 20) (by kernel_rfl) ?_ ?_
  ·refine gi 7777189887 ?_; intro K hK
   refine ow_bs (e := 26) [Zi b.u0, Zi b.u1, Zi b.d0, Zi b.d1, Zi b.a0, Zi b.a1, Zi b.b0, Zi b.b1] M T rfl rfl rfl rfl (.cons (T.e 6 rfl) (.cons (T.e 5 rfl) (.cons (T.e 4 rfl) (.cons (T.e 3 rfl) .nil)))) (fun _ => by kernel_rfl) ?_; clear M T; intro gr15_14 wc ac M T
   refine Zso hK _ _ (M.mask [false, false, false, true] rfl) ?_; clear hK K
   exact H6 _ _ ⟨gr15_27, gr15_32, gr15_14, T.pick [2, 1, 0, 3, 8] rfl, M.perm [2, 1, 0, 3] rfl rfl⟩
  refine gi 7778222079 ?_; intro K hK
  refine ow_bs (e := 3) [Zi b.le] M T rfl rfl rfl rfl (.cons (T.e 2 rfl) .nil) (fun _ => by kernel_rfl) ?_; clear M T; intro gr15_20 wc ac M T
  refine Zso hK _ _ (M.mask [false, false, false, true] rfl) ?_; clear hK K
  exact H7 _ _ ⟨gr15_27, gr15_32, gr15_20, T.pick [2, 1, 0, 4, 5, 6, 7, 8] rfl, M.perm [2, 1, 0, 3] rfl rfl⟩
 intro H2
 refine g_have (fun ac wc => ∃ (gr15_32 gr15_20 : Nat), Tm ac 105 [(101, .slice (some ⟨gr15_32, 0, none⟩) 1 1), (89, .slice (some ⟨gr15_20, 0, none⟩) 1 1), (95, .agg #[Zi b.r0, Zi b.r1]), (93, .agg #[Zi b.t0, Zi b.t1]), (82, .agg #[Zi b.b0, Zi b.b1]), (79, .agg #[Zi b.a0, Zi b.a1]), (76, .agg #[Zi b.d0, Zi b.d1]), (73, .agg #[Zi b.u0, Zi b.u1]), (70, sv ((pre8 ++ (b.highs.take k).flatMap (sndT highW)) ++ ([102, 105, 108, 101])))] ∧ Mem w noEx wc [(gr15_32, .cells [Zi b.me]), (gr15_20, .cells [Zi b.le]), (g1, .cells (bxM b (.slice A b.lows.length c) (.slice B b.highs.length d)))]) (Zpb 38 7644004351) 13 ?_ ?_
 ·clear T M
  rintro ac wc ⟨gr15_32, gr15_20, T, M⟩
  refine g_m2 (i := 14) (j := 27) (by kernel_rfl) ?_ ?_
  ·refine gi 7644020735 ?_; intro K hK
   refine ow_bs (e := 26) [Zi b.u0, Zi b.u1, Zi b.d0, Zi b.d1, Zi b.a0, Zi b.a1, Zi b.b0, Zi b.b1] M T rfl rfl rfl rfl (.cons (T.e 7 rfl) (.cons (T.e 6 rfl) (.cons (T.e 5 rfl) (.cons (T.e 4 rfl) .nil)))) (fun _ => by kernel_rfl) ?_; clear M T; intro gr15_14 wc ac M T
   refine Zso hK _ _ (M.mask [false, false, false, true] rfl) ?_; clear hK K
   exact H8 _ _ ⟨gr15_20, gr15_32, gr15_14, T.pick [2, 1, 0, 3, 4, 9] rfl, M.perm [2, 1, 0, 3] rfl rfl⟩
  refine gi 7778222079 ?_; intro K hK
  refine ow_bs (e := 26) [Zi b.t0, Zi b.t1, Zi b.r0, Zi b.r1] M T rfl rfl rfl rfl (.cons (T.e 3 rfl) (.cons (T.e 2 rfl) .nil)) (fun _ => by kernel_rfl) ?_; clear M T; intro gr15_27 wc ac M T
  refine Zso hK _ _ (M.mask [false, false, false, true] rfl) ?_; clear hK K
  exact H7 _ _ ⟨gr15_27, gr15_32, gr15_20, T.pick [0, 1, 2, 5, 6, 7, 8, 9] rfl, M⟩
 intro H1
 refine g_have (fun ac wc => ∃ (gr15_32 gr15_14 : Nat), Tm ac 105 [(101, .slice (some ⟨gr15_32, 0, none⟩) 1 1), (83, .slice (some ⟨gr15_14, 0, none⟩) 4 4), (95, .agg #[Zi b.r0, Zi b.r1]), (93, .agg #[Zi b.t0, Zi b.t1]), (88, Zi b.le), (70, sv ((pre8 ++ (b.highs.take k).flatMap (sndT highW)) ++ ([102, 105, 108, 101])))] ∧ Mem w noEx wc [(gr15_32, .cells [Zi b.me]), (gr15_14, .cells [Zi b.u0, Zi b.u1, Zi b.d0, Zi b.d1, Zi b.a0, Zi b.a1, Zi b.b0, Zi b.b1]), (g1, .cells (bxM b (.slice A b.lows.length c) (.slice B b.highs.length d)))]) (Zpb 38 7642972159) 13 ?_ ?_
 ·clear T M
  rintro ac wc ⟨gr15_32, gr15_14, T, M⟩
  refine g_m3 (i := 15) (j := 20) (k := 27) (by kernel_rfl) ?_ ?_ ?_
  ·refine gi 7643004927 ?_; intro K hK
   refine Zoc (first := []) (cap := []) T rfl rfl rfl rfl evf (.cons (T.e 1 rfl) .nil) Tryz.func41 rfl rfl ?_
   refine Calls.mono (vranges_any _ _ _ ([(b.u0, b.u1), (b.d0, b.d1), (b.a0, b.a1), (b.b0, b.b1)]) _ (M.rdOwn (Zne (i := 1) rfl) rfl rfl) (by omega) (by intro p hp; simp only [List.mem_cons, List.not_mem_nil, or_false] at hp; rcases hp with rfl | rfl | rfl | rfl <;> exact ⟨⟨by dsimp only; omega, by dsimp only; omega⟩, by dsimp only; omega, by dsimp only; omega⟩) (hT.mem0 M)) ?_
   clear T; rintro e wc ⟨rfl, hb⟩ ac T
   replace M := M.call hb; clear hb
   have hrur15_15 := rgV_len ([(b.u0, b.u1), (b.d0, b.d1), (b.a0, b.a1), (b.b0, b.b1)]) (by intro p hp; simp only [List.mem_cons, List.not_mem_nil, or_false] at hp; rcases hp with rfl | rfl | rfl | rfl <;> exact ⟨⟨by dsimp only; omega, by dsimp only; omega⟩, by dsimp only; omega, by dsimp only; omega⟩)
   simp only [List.length_cons, List.length_nil] at hrur15_15
   refine Zso hK _ _ (M.mask [false, false, true] rfl) ?_; clear hK K
   refine gq T 16 7643070463 rfl (fun _ _ _ _ _ => (rn_sadd rfl (T.e 6 rfl) (T.e 0 rfl) (by (try simp only [List.length_append, List.length_cons, List.length_nil]); omega))) ?_; clear T ac; intro ac T
   exact H11 _ _ ⟨gr15_32, gr15_14, T.pick [2, 0, 4, 5, 6] rfl, M⟩
  ·refine gi 7644020735 ?_; intro K hK
   refine ow_bs (e := 3) [Zi b.le] M T rfl rfl rfl rfl (.cons (T.e 4 rfl) .nil) (fun _ => by kernel_rfl) ?_; clear M T; intro gr15_20 wc ac M T
   refine Zso hK _ _ (M.mask [false, false, false, true] rfl) ?_; clear hK K
   exact H8 _ _ ⟨gr15_20, gr15_32, gr15_14, T.pick [0, 1, 2, 3, 4, 6] rfl, M⟩
  refine gi 7777189887 ?_; intro K hK
  refine ow_bs (e := 26) [Zi b.t0, Zi b.t1, Zi b.r0, Zi b.r1] M T rfl rfl rfl rfl (.cons (T.e 3 rfl) (.cons (T.e 2 rfl) .nil)) (fun _ => by kernel_rfl) ?_; clear M T; intro gr15_27 wc ac M T
  refine Zso hK _ _ (M.mask [false, false, false, true] rfl) ?_; clear hK K
  exact H6 _ _ ⟨gr15_27, gr15_32, gr15_14, T.pick [0, 1, 2, 5, 6] rfl, M⟩
 intro H0
 refine gq T 0 1 rfl (fun _ _ _ _ _ => (Zrm rfl (T.e 2 rfl))) ?_; clear T ac; intro ac T
 refine gq T 1 3 rfl (fun _ _ _ _ _ => (rn_sadd rfl (T.e 0 rfl) evc (by (try simp only [List.length_append, List.length_cons, List.length_nil]); omega))) ?_; clear T ac; intro ac T
 refine gq (v := (.pointer (some ⟨g1, 11, none⟩))) T 2 7 rfl (fun _ _ _ _ _ => (Zrf (off := 11) rfl (T.e 3 rfl) (fun _ _ _ => by kernel_rfl))) ?_; clear T ac; intro ac T
 refine gq (v := (.pointer (some ⟨g1, 11, none⟩))) T 3 15 rfl (fun _ _ _ _ _ => (Zrf (off := 0) rfl (T.e 0 rfl) (fun _ _ _ => by kernel_rfl))) ?_; clear T ac; intro ac T
 refine gq T 4 31 rfl (fun B w' hD hl hS => (Zrr (Mem.nth (show Mem w noEx w' _ from hS) 0 rfl) rfl (T.e 0 rfl) rfl)) ?_; clear T ac; intro ac T
 refine gq (v := (.pointer (some ⟨g1, 11, none⟩))) T 5 63 rfl (fun _ _ _ _ _ => (Zrf (off := 11) rfl (T.e 6 rfl) (fun _ _ _ => by kernel_rfl))) ?_; clear T ac; intro ac T
 refine gq (v := (.pointer (some ⟨g1, 13, none⟩))) T 6 127 rfl (fun _ _ _ _ _ => (Zrf (off := 2) rfl (T.e 0 rfl) (fun _ _ _ => by kernel_rfl))) ?_; clear T ac; intro ac T
 refine gq T 7 255 rfl (fun B w' hD hl hS => (Zrr (Mem.nth (show Mem w noEx w' _ from hS) 0 rfl) rfl (T.e 0 rfl) rfl)) ?_; clear T ac; intro ac T
 refine gq (v := (.pointer (some ⟨g1, 11, none⟩))) T 8 511 rfl (fun _ _ _ _ _ => (Zrf (off := 11) rfl (T.e 9 rfl) (fun _ _ _ => by kernel_rfl))) ?_; clear T ac; intro ac T
 refine gq (v := (.pointer (some ⟨g1, 15, none⟩))) T 9 1023 rfl (fun _ _ _ _ _ => (Zrf (off := 4) rfl (T.e 0 rfl) (fun _ _ _ => by kernel_rfl))) ?_; clear T ac; intro ac T
 refine gq T 10 2047 rfl (fun B w' hD hl hS => (Zrr (Mem.nth (show Mem w noEx w' _ from hS) 0 rfl) rfl (T.e 0 rfl) rfl)) ?_; clear T ac; intro ac T
 refine gq (v := (.pointer (some ⟨g1, 11, none⟩))) T 11 4095 rfl (fun _ _ _ _ _ => (Zrf (off := 11) rfl (T.e 12 rfl) (fun _ _ _ => by kernel_rfl))) ?_; clear T ac; intro ac T
 refine gq (v := (.pointer (some ⟨g1, 17, none⟩))) T 12 8191 rfl (fun _ _ _ _ _ => (Zrf (off := 6) rfl (T.e 0 rfl) (fun _ _ _ => by kernel_rfl))) ?_; clear T ac; intro ac T
 refine gq T 13 16383 rfl (fun B w' hD hl hS => (Zrr (Mem.nth (show Mem w noEx w' _ from hS) 0 rfl) rfl (T.e 0 rfl) rfl)) ?_; clear T ac; intro ac T
 refine gq (v := (.pointer (some ⟨g1, 11, none⟩))) T 17 147455 rfl (fun _ _ _ _ _ => (Zrf (off := 11) rfl (T.e 15 rfl) (fun _ _ _ => by kernel_rfl))) ?_; clear T ac; intro ac T
 refine gq (v := (.pointer (some ⟨g1, 19, none⟩))) T 18 409599 rfl (fun _ _ _ _ _ => (Zrf (off := 8) rfl (T.e 0 rfl) (fun _ _ _ => by kernel_rfl))) ?_; clear T ac; intro ac T
 refine gq T 19 933887 rfl (fun B w' hD hl hS => (Zro (Mem.nth (show Mem w noEx w' _ from hS) 0 rfl) rfl (T.e 0 rfl) rfl)) ?_; clear T ac; intro ac T
 refine gq (v := (.pointer (some ⟨g1, 7, none⟩))) T 23 9322495 rfl (fun _ _ _ _ _ => (Zrf (off := 7) rfl (T.e 18 rfl) (fun _ _ _ => by kernel_rfl))) ?_; clear T ac; intro ac T
 refine gq T 24 26099711 rfl (fun B w' hD hl hS => (Zrr (Mem.nth (show Mem w noEx w' _ from hS) 0 rfl) rfl (T.e 0 rfl) rfl)) ?_; clear T ac; intro ac T
 refine gq (v := (.pointer (some ⟨g1, 9, none⟩))) T 25 59654143 rfl (fun _ _ _ _ _ => (Zrf (off := 9) rfl (T.e 20 rfl) (fun _ _ _ => by kernel_rfl))) ?_; clear T ac; intro ac T
 refine gq T 26 126763007 rfl (fun B w' hD hl hS => (Zrr (Mem.nth (show Mem w noEx w' _ from hS) 0 rfl) rfl (T.e 0 rfl) rfl)) ?_; clear T ac; intro ac T
 refine gq (v := (.pointer (some ⟨g1, 20, none⟩))) T 30 1200504831 rfl (fun _ _ _ _ _ => (Zrf (off := 20) rfl (T.e 22 rfl) (fun _ _ _ => by kernel_rfl))) ?_; clear T ac; intro ac T
 refine gq T 31 3347988479 rfl (fun B w' hD hl hS => (Zro (Mem.nth (show Mem w noEx w' _ from hS) 0 rfl) rfl (T.e 0 rfl) rfl)) ?_; clear T ac; intro ac T
 refine g_m4 (i := 14) (j := 20) (k := 27) (k4 := 32) (by kernel_rfl) ?_ ?_ ?_ ?_
 ·refine gi 3348004863 ?_; intro K hK
  refine ow_bs (e := 26) [Zi b.u0, Zi b.u1, Zi b.d0, Zi b.d1, Zi b.a0, Zi b.a1, Zi b.b0, Zi b.b1] M T rfl rfl rfl rfl (.cons (T.e 18 rfl) (.cons (T.e 15 rfl) (.cons (T.e 12 rfl) (.cons (T.e 9 rfl) .nil)))) (fun _ => by kernel_rfl) ?_; clear M T; intro gr15_14 wc ac M T
  refine Zso hK _ _ (M.mask [false, true] rfl) ?_; clear hK K
  refine g_m4 (i := 15) (j := 20) (k := 27) (k4 := 32) (by kernel_rfl) ?_ ?_ ?_ ?_
  ·refine gi 3348037631 ?_; intro K hK
   refine Zoc (first := []) (cap := []) T rfl rfl rfl rfl evf (.cons (T.e 0 rfl) .nil) Tryz.func41 rfl rfl ?_
   refine Calls.mono (vranges_any _ _ _ ([(b.u0, b.u1), (b.d0, b.d1), (b.a0, b.a1), (b.b0, b.b1)]) _ (M.rdOwn (Zne (i := 0) rfl) rfl rfl) (by omega) (by intro p hp; simp only [List.mem_cons, List.not_mem_nil, or_false] at hp; rcases hp with rfl | rfl | rfl | rfl <;> exact ⟨⟨by dsimp only; omega, by dsimp only; omega⟩, by dsimp only; omega, by dsimp only; omega⟩) (hT.mem0 M)) ?_
   clear T; rintro e wc ⟨rfl, hb⟩ ac T
   replace M := M.call hb; clear hb
   have hrur15_15 := rgV_len ([(b.u0, b.u1), (b.d0, b.d1), (b.a0, b.a1), (b.b0, b.b1)]) (by intro p hp; simp only [List.mem_cons, List.not_mem_nil, or_false] at hp; rcases hp with rfl | rfl | rfl | rfl <;> exact ⟨⟨by dsimp only; omega, by dsimp only; omega⟩, by dsimp only; omega, by dsimp only; omega⟩)
   simp only [List.length_cons, List.length_nil] at hrur15_15
   refine Zso hK _ _ (M.mask [false, true] rfl) ?_; clear hK K
   refine gq T 16 3348103167 rfl (fun _ _ _ _ _ => (rn_sadd rfl (T.e 23 rfl) (T.e 0 rfl) (by (try simp only [List.length_append, List.length_cons, List.length_nil]); omega))) ?_; clear T ac; intro ac T
   refine g_m3 (i := 20) (j := 27) (k := 32) (by kernel_rfl) ?_ ?_ ?_
   ·refine gi 3349151743 ?_; intro K hK
    refine ow_bs (e := 3) [Zi b.le] M T rfl rfl rfl rfl (.cons (T.e 9 rfl) .nil) (fun _ => by kernel_rfl) ?_; clear M T; intro gr15_20 wc ac M T
    refine Zso hK _ _ (M.mask [false, false, true] rfl) ?_; clear hK K
    exact H13 _ _ ⟨gr15_20, gr15_14, T.pick [0, 1, 4, 6, 8] rfl, M⟩
   ·refine gi 3482320895 ?_; intro K hK
    refine ow_bs (e := 26) [Zi b.t0, Zi b.t1, Zi b.r0, Zi b.r1] M T rfl rfl rfl rfl (.cons (T.e 7 rfl) (.cons (T.e 5 rfl) .nil)) (fun _ => by kernel_rfl) ?_; clear M T; intro gr15_27 wc ac M T
    refine Zso hK _ _ (M.mask [false, false, true] rfl) ?_; clear hK K
    exact H12 _ _ ⟨gr15_27, gr15_14, T.pick [0, 1, 4, 10] rfl, M⟩
   refine gi 7643070463 ?_; intro K hK
   refine ow_bs (e := 3) [Zi b.me] M T rfl rfl rfl rfl (.cons (T.e 3 rfl) .nil) (fun _ => by kernel_rfl) ?_; clear M T; intro gr15_32 wc ac M T
   refine Zso hK _ _ (M.mask [false, false, true] rfl) ?_; clear hK K
   exact H11 _ _ ⟨gr15_32, gr15_14, T.pick [0, 1, 6, 8, 10] rfl, M⟩
  ·refine gi 3349053439 ?_; intro K hK
   refine ow_bs (e := 3) [Zi b.le] M T rfl rfl rfl rfl (.cons (T.e 7 rfl) .nil) (fun _ => by kernel_rfl) ?_; clear M T; intro gr15_20 wc ac M T
   refine Zso hK _ _ (M.mask [false, false, true] rfl) ?_; clear hK K
   exact H5 _ _ ⟨gr15_20, gr15_14, T.pick [0, 1, 2, 4, 6, 23] rfl, M⟩
  ·refine gi 3482222591 ?_; intro K hK
   refine ow_bs (e := 26) [Zi b.t0, Zi b.t1, Zi b.r0, Zi b.r1] M T rfl rfl rfl rfl (.cons (T.e 5 rfl) (.cons (T.e 3 rfl) .nil)) (fun _ => by kernel_rfl) ?_; clear M T; intro gr15_27 wc ac M T
   refine Zso hK _ _ (M.mask [false, false, true] rfl) ?_; clear hK K
   exact H3 _ _ ⟨gr15_27, gr15_14, T.pick [0, 1, 2, 8, 23] rfl, M⟩
  refine gi 7642972159 ?_; intro K hK
  refine ow_bs (e := 3) [Zi b.me] M T rfl rfl rfl rfl (.cons (T.e 1 rfl) .nil) (fun _ => by kernel_rfl) ?_; clear M T; intro gr15_32 wc ac M T
  refine Zso hK _ _ (M.mask [false, false, true] rfl) ?_; clear hK K
  exact H0 _ _ ⟨gr15_32, gr15_14, T.pick [0, 1, 4, 6, 8, 23] rfl, M⟩
 ·refine gi 3349037055 ?_; intro K hK
  refine ow_bs (e := 3) [Zi b.le] M T rfl rfl rfl rfl (.cons (T.e 6 rfl) .nil) (fun _ => by kernel_rfl) ?_; clear M T; intro gr15_20 wc ac M T
  refine Zso hK _ _ (M.mask [false, true] rfl) ?_; clear hK K
  refine g_m3 (i := 14) (j := 27) (k := 32) (by kernel_rfl) ?_ ?_ ?_
  ·refine gi 3349053439 ?_; intro K hK
   refine ow_bs (e := 26) [Zi b.u0, Zi b.u1, Zi b.d0, Zi b.d1, Zi b.a0, Zi b.a1, Zi b.b0, Zi b.b1] M T rfl rfl rfl rfl (.cons (T.e 19 rfl) (.cons (T.e 16 rfl) (.cons (T.e 13 rfl) (.cons (T.e 10 rfl) .nil)))) (fun _ => by kernel_rfl) ?_; clear M T; intro gr15_14 wc ac M T
   refine Zso hK _ _ (M.mask [false, false, true] rfl) ?_; clear hK K
   exact H5 _ _ ⟨gr15_20, gr15_14, T.pick [1, 0, 2, 4, 6, 23] rfl, M.perm [1, 0, 2] rfl rfl⟩
  ·refine gi 3483254783 ?_; intro K hK
   refine ow_bs (e := 26) [Zi b.t0, Zi b.t1, Zi b.r0, Zi b.r1] M T rfl rfl rfl rfl (.cons (T.e 5 rfl) (.cons (T.e 3 rfl) .nil)) (fun _ => by kernel_rfl) ?_; clear M T; intro gr15_27 wc ac M T
   refine Zso hK _ _ (M.mask [false, false, true] rfl) ?_; clear hK K
   exact H4 _ _ ⟨gr15_27, gr15_20, T.pick [0, 1, 2, 11, 14, 17, 20, 23] rfl, M⟩
  refine gi 7644004351 ?_; intro K hK
  refine ow_bs (e := 3) [Zi b.me] M T rfl rfl rfl rfl (.cons (T.e 1 rfl) .nil) (fun _ => by kernel_rfl) ?_; clear M T; intro gr15_32 wc ac M T
  refine Zso hK _ _ (M.mask [false, false, true] rfl) ?_; clear hK K
  exact H1 _ _ ⟨gr15_32, gr15_20, T.pick [0, 1, 4, 6, 11, 14, 17, 20, 23] rfl, M⟩
 ·refine gi 3482206207 ?_; intro K hK
  refine ow_bs (e := 26) [Zi b.t0, Zi b.t1, Zi b.r0, Zi b.r1] M T rfl rfl rfl rfl (.cons (T.e 4 rfl) (.cons (T.e 2 rfl) .nil)) (fun _ => by kernel_rfl) ?_; clear M T; intro gr15_27 wc ac M T
  refine Zso hK _ _ (M.mask [false, true] rfl) ?_; clear hK K
  refine g_m3 (i := 14) (j := 20) (k := 32) (by kernel_rfl) ?_ ?_ ?_
  ·refine gi 3482222591 ?_; intro K hK
   refine ow_bs (e := 26) [Zi b.u0, Zi b.u1, Zi b.d0, Zi b.d1, Zi b.a0, Zi b.a1, Zi b.b0, Zi b.b1] M T rfl rfl rfl rfl (.cons (T.e 19 rfl) (.cons (T.e 16 rfl) (.cons (T.e 13 rfl) (.cons (T.e 10 rfl) .nil)))) (fun _ => by kernel_rfl) ?_; clear M T; intro gr15_14 wc ac M T
   refine Zso hK _ _ (M.mask [false, false, true] rfl) ?_; clear hK K
   exact H3 _ _ ⟨gr15_27, gr15_14, T.pick [1, 0, 2, 8, 23] rfl, M.perm [1, 0, 2] rfl rfl⟩
  ·refine gi 3483254783 ?_; intro K hK
   refine ow_bs (e := 3) [Zi b.le] M T rfl rfl rfl rfl (.cons (T.e 7 rfl) .nil) (fun _ => by kernel_rfl) ?_; clear M T; intro gr15_20 wc ac M T
   refine Zso hK _ _ (M.mask [false, false, true] rfl) ?_; clear hK K
   exact H4 _ _ ⟨gr15_27, gr15_20, T.pick [1, 0, 2, 11, 14, 17, 20, 23] rfl, M.perm [1, 0, 2] rfl rfl⟩
  refine gi 7777173503 ?_; intro K hK
  refine ow_bs (e := 3) [Zi b.me] M T rfl rfl rfl rfl (.cons (T.e 1 rfl) .nil) (fun _ => by kernel_rfl) ?_; clear M T; intro gr15_32 wc ac M T
  refine Zso hK _ _ (M.mask [false, false, true] rfl) ?_; clear hK K
  exact H2 _ _ ⟨gr15_32, gr15_27, T.pick [0, 1, 8, 11, 14, 17, 20, 23] rfl, M⟩
 refine gi 7642955775 ?_; intro K hK
 refine ow_bs (e := 3) [Zi b.me] M T rfl rfl rfl rfl (.cons (T.e 0 rfl) .nil) (fun _ => by kernel_rfl) ?_; clear M T; intro gr15_32 wc ac M T
 refine Zso hK _ _ (M.mask [false, true] rfl) ?_; clear hK K
 refine g_m3 (i := 14) (j := 20) (k := 27) (by kernel_rfl) ?_ ?_ ?_
 ·refine gi 7642972159 ?_; intro K hK
  refine ow_bs (e := 26) [Zi b.u0, Zi b.u1, Zi b.d0, Zi b.d1, Zi b.a0, Zi b.a1, Zi b.b0, Zi b.b1] M T rfl rfl rfl rfl (.cons (T.e 19 rfl) (.cons (T.e 16 rfl) (.cons (T.e 13 rfl) (.cons (T.e 10 rfl) .nil)))) (fun _ => by kernel_rfl) ?_; clear M T; intro gr15_14 wc ac M T
  refine Zso hK _ _ (M.mask [false, false, true] rfl) ?_; clear hK K
  exact H0 _ _ ⟨gr15_32, gr15_14, T.pick [1, 0, 4, 6, 8, 23] rfl, M.perm [1, 0, 2] rfl rfl⟩
 ·refine gi 7644004351 ?_; intro K hK
  refine ow_bs (e := 3) [Zi b.le] M T rfl rfl rfl rfl (.cons (T.e 7 rfl) .nil) (fun _ => by kernel_rfl) ?_; clear M T; intro gr15_20 wc ac M T
  refine Zso hK _ _ (M.mask [false, false, true] rfl) ?_; clear hK K
  exact H1 _ _ ⟨gr15_32, gr15_20, T.pick [1, 0, 4, 6, 11, 14, 17, 20, 23] rfl, M.perm [1, 0, 2] rfl rfl⟩
 refine gi 7777173503 ?_; intro K hK
 refine ow_bs (e := 26) [Zi b.t0, Zi b.t1, Zi b.r0, Zi b.r1] M T rfl rfl rfl rfl (.cons (T.e 5 rfl) (.cons (T.e 3 rfl) .nil)) (fun _ => by kernel_rfl) ?_; clear M T; intro gr15_27 wc ac M T
 refine Zso hK _ _ (M.mask [false, false, true] rfl) ?_; clear hK K
 exact H2 _ _ ⟨gr15_32, gr15_27, T.pick [1, 0, 8, 11, 14, 17, 20, 23] rfl, M.perm [1, 0, 2] rfl rfl⟩
theorem num_isSome {s : List UInt8} {n : Int} {ev : Value} (hok : nilB ev = true → Lib.atoiAll s = .ok n) (hno : nilB ev = false → ∀ v, Lib.atoiAll s ≠ .ok v) : (nilB ev && decide ((trim45 s).length ≤ 3) && decide (Lib.itoa n = s)) = (numP s).isSome := by
 unfold numP
 cases h : nilB ev with
 | false =>
  split
  ·rename_i v hv; exact absurd hv (hno h v)
  ·rfl
 | true =>
  rw [hok h]
  dsimp only
  by_cases h1 : (trim45 s).length ≤ 3 <;> by_cases h2 : Lib.itoa n = s <;> simp [h1, h2]
theorem num_val {s : List UInt8} {n : Int} {ev : Value} (hok : nilB ev = true → Lib.atoiAll s = .ok n) (hno : nilB ev = false → ∀ v, Lib.atoiAll s ≠ .ok v) {v : Int} (hv : numP s = some v) : n = v := by
 unfold numP at hv
 split at hv
 ·rename_i v' ha
  split at hv
  ·cases hv
   cases h : nilB ev with
   | false => exact absurd ha (hno h _)
   | true => rw [hok h] at ha; injection ha
  ·cases hv
 ·cases hv
def NumPost (f : List UInt8 → Option Int) (s : List UInt8) (w : World) (e : Ending) (w' : World) : Prop := ∃ n : Int, e = .returned (.tuple #[Zi n, .bool (f s).isSome]) ∧ (∀ v, f s = some v → n = v) ∧ Below w.heap.size w w'
theorem number_any (s : List UInt8) (w : World) (hs : s.length ≤ 1000000) (hT : StrW w)  :
   Calls Tryz.prog 117 #[sv s] w (NumPost numP s w) := by
 refine Zpx noEx Tryz.func117 rfl 26 rfl [sv s] rfl rfl (Mem.init w _) ?_
 intro ac wc T M
 refine Zsr ?_
 refine Zg2 T (Zq (Zra rfl evc)) rfl (Zc rfl) rfl ?_; clear T ac; intro ac T
 replace T := T.pick [2] rfl
 refine Zln ?_
 refine Zsr ?_
 refine lq T (Zrm rfl (T.e 0 rfl)) ?_; clear T ac; intro ac T
 refine Zl2 ?_
 refine Zoc (first := []) (cap := []) T rfl rfl rfl rfl evf (.cons (T.e 0 rfl) .nil) Tryz.func179 rfl rfl ?_
 refine Calls.mono (Atoi_any s _ (by omega) (hT.mem0 M)) ?_
 clear T; rintro e wc ⟨nu1, evu1, rfl, hb0u1, hevu1, hoku1, hnou1, hb⟩ ac T
 replace M := M.call hb; clear hb
 refine Zg5 T (Zq (Zrm rfl (T.e 0 rfl))) rfl (Ze 0 rfl rfl rfl) rfl (Ze 1 rfl rfl rfl) rfl (Za 1 rfl rfl) rfl (Za 1 rfl rfl) rfl ?_; clear T ac; intro ac T
 replace T := T.pick [0, 1, 7] rfl
 refine Zln ?_
 refine cut_seq (fun ac wc => Tm ac 26 [(2, Zi nu1), (3, .bool ((nilB evu1) && ((decide ((((trim45 s).length : Nat) : Int) ≤ 3)) && (decide ((Lib.itoa nu1) = s)))))] ∧ Mem w noEx wc []) ?_ ?_
 ·refine wp_region_lit ?_
  refine Zg4 T (Zq (Zrm rfl (T.e 1 rfl))) rfl (Zm 1 rfl rfl) rfl (fun _ T => Zq (rn_ifnil rfl (T.e 0 rfl) hevu1)) rfl (Zm 0 rfl rfl) rfl ?_; clear T ac; intro ac T
  rcases Bool.eq_false_or_eq_true (nilB evu1) with h1 | h1
  ·refine lw T (Zwy rfl rfl (T.e 0 rfl) h1) (Zrm rfl (T.e 6 rfl)) ?_; clear T ac; intro ac T
   refine l_w (Zwy rfl rfl (T.e 1 rfl) h1) ?_; intro K hK
   refine Zoc (first := []) (cap := []) T rfl rfl rfl rfl evf (.cons (T.e 0 rfl) (.cons evc .nil)) Tryz.func180 rfl rfl ?_
   refine Calls.mono (TrimPrefix_any s _) ?_
   clear T; rintro e wc ⟨rfl, hb⟩ ac T
   replace M := M.call hb; clear hb
   refine Zso hK _ _ ?_; clear hK K
   refine Zg4 T (Zw (Zwy rfl rfl (T.e 2 rfl) h1) (rn_slen rfl Tryz.underlying9 (T.e 0 rfl))) rfl (fun _ T => Zw (Zwy rfl rfl (T.e 3 rfl) h1) (rn_leq rfl (T.e 0 rfl) evc)) rfl (fun _ T => Zq (Zr1 rfl (T.e 4 rfl) h1 (T.e 0 rfl))) rfl (Zm 0 rfl rfl) rfl ?_; clear T ac; intro ac T
   rcases Bool.eq_false_or_eq_true (decide ((((trim45 s).length : Nat) : Int) ≤ 3)) with h2 | h2
   ·replace h2 := of_decide_eq_true h2
    refine lw T (Zwy rfl rfl (T.e 0 rfl) (Zdt h2)) (Zrm rfl (T.e 11 rfl)) ?_; clear T ac; intro ac T
    refine l_w (Zwy rfl rfl (T.e 1 rfl) (Zdt h2)) ?_; intro K hK
    refine Zoc (first := []) (cap := []) T rfl rfl rfl rfl evf (.cons (T.e 0 rfl) .nil) Tryz.func43 rfl rfl ?_
    refine Calls.mono (Itoa_any nu1 _ hb0u1 (hT.mem0 M)) ?_
    clear T; rintro e wc ⟨rfl, hb⟩ ac T
    replace M := M.call hb; clear hb
    refine Zso hK _ _ ?_; clear hK K
    refine Zg5 T (Zw (Zwy rfl rfl (T.e 2 rfl) (Zdt h2)) (Zrm rfl (T.e 14 rfl))) rfl (fun _ T => Zw (Zwy rfl rfl (T.e 3 rfl) (Zdt h2)) (rn_seql rfl (T.e 1 rfl) (T.e 0 rfl))) rfl (fun _ T => Zq (Zr1 rfl (T.e 4 rfl) (Zdt h2) (T.e 0 rfl))) rfl (Za 14 rfl rfl) rfl (Za 1 rfl rfl) rfl ?_; clear T ac; intro ac T
    refine wpList_nil ?_
    replace T := T.pick [0, 1] rfl
    exact ⟨(T.pick (E' := [(2, Zi nu1), (3, .bool (decide ((Lib.itoa nu1) = s)))]) [1, 0] rfl).as (by (try rw [show (nilB evu1) = true from h1]); (try rw [show (decide ((((trim45 s).length : Nat) : Int) ≤ 3)) = true from (Zdt h2)]); (try rfl)), M.mask [] rfl⟩
   replace h2 := of_decide_eq_false h2
   refine Zg7 T (Zp (Zwn rfl rfl (T.e 0 rfl) (Zdf h2))) rfl (fun _ T => Zp (Zwn rfl rfl (T.e 1 rfl) (Zdf h2))) rfl (fun _ T => Zp (Zwn rfl rfl (T.e 2 rfl) (Zdf h2))) rfl (fun _ T => Zp (Zwn rfl rfl (T.e 3 rfl) (Zdf h2))) rfl (fun _ T => Zq (Zr0 rfl (T.e 4 rfl) (Zdf h2) evc)) rfl (Za 14 rfl rfl) rfl (Za 1 rfl rfl) rfl ?_; clear T ac; intro ac T
   refine wpList_nil ?_
   replace T := T.pick [0, 1] rfl
   exact ⟨(T.pick (E' := [(2, Zi nu1), (3, .bool false)]) [1, 0] rfl).as (by (try rw [show (nilB evu1) = true from h1]); (try rw [show (decide ((((trim45 s).length : Nat) : Int) ≤ 3)) = false from (Zdf h2)]); (try rfl)), M.mask [] rfl⟩
  refine Zg8 T (Zp (Zwn rfl rfl (T.e 0 rfl) h1)) rfl (fun _ T => Zp (Zwn rfl rfl (T.e 1 rfl) h1)) rfl (fun _ T => Zp (Zwn rfl rfl (T.e 2 rfl) h1)) rfl (fun _ T => Zp (Zwn rfl rfl (T.e 3 rfl) h1)) rfl (fun _ T => Zq (Zr0 rfl (T.e 4 rfl) h1 evc)) rfl (Zm 0 rfl rfl) rfl (fun _ T => Zp (Zwn rfl rfl (T.e 0 rfl) rfl)) rfl (fun _ T => Zp (Zwn rfl rfl (T.e 1 rfl) rfl)) rfl ?_; clear T ac; intro ac T
  refine Zg5 T (Zp (Zwn rfl rfl (T.e 2 rfl) rfl)) rfl (fun _ T => Zp (Zwn rfl rfl (T.e 3 rfl) rfl)) rfl (fun _ T => Zq (Zr0 rfl (T.e 4 rfl) rfl evc)) rfl (Za 14 rfl rfl) rfl (Za 1 rfl rfl) rfl ?_; clear T ac; intro ac T
  refine wpList_nil ?_
  replace T := T.pick [0, 1] rfl
  exact ⟨(T.pick (E' := [(2, Zi nu1), (3, .bool false)]) [1, 0] rfl).as (by (try rw [show (nilB evu1) = false from h1]); (try rfl)), M.mask [] rfl⟩
 clear T M
 rintro ac wc ⟨T, M⟩
 refine wp_ret ?_
 refine rt_2 T rfl (T.e 0 rfl) (T.e 1 rfl) ?_
 have e9 : ((nilB evu1) && ((decide ((((trim45 s).length : Nat) : Int) ≤ 3)) && (decide ((Lib.itoa nu1) = s)))) = (numP s).isSome := by rw [← num_isSome hoku1 hnou1, Bool.and_assoc, show decide ((((trim45 s).length : Nat) : Int) ≤ 3) = decide ((trim45 s).length ≤ 3) from decide_eq_decide.2 (by omega)]
 exact ⟨nu1, by rw [← e9], fun v hv => num_val hoku1 hnou1 hv, M.below⟩
open Go.RowKit
abbrev boxL (b : Bx) (A : Option Addr) (c : Nat) (B : Option Addr) (d : Nat) : List Value := (bxM b (.slice A b.lows.length c) (.slice B b.highs.length d))
set_option maxHeartbeats 4000000 in
theorem vtake0_any (bb : Nat) (b : Bx) (A : Option Addr) (c : Nat) (B : Option Addr) (d : Nat) (X : Option Addr) (cx : Nat) (Y : Option Addr) (cy : Nat) (n0 n1 n2 n3 n4 : Int) (w : World) (hq : Bk w bb #[Zi b.first, Zi b.step, Zi b.span, Zi b.press, Zi b.note, .slice A b.lows.length c, .slice B b.highs.length d, Zi b.t0, Zi b.t1, Zi b.r0, Zi b.r1, Zi b.u0, Zi b.u1, Zi b.d0, Zi b.d1, Zi b.a0, Zi b.a1, Zi b.b0, Zi b.b1, Zi b.le, Zi b.me]) (hx : Rd w w.heap.size 2 X 0 (rc [])) (hxe : ∀ b o, X = some ⟨b, o, none⟩ → b ≠ bb) (hy : Rd w w.heap.size 1 Y 5 (ic [n0, n1, n2, n3, n4])) (hye : ∀ b o, Y = some ⟨b, o, none⟩ → b ≠ bb) :
  Calls Tryz.prog 112 #[Zj bb, .agg #[.slice X 0 cx, .slice Y 5 cy]] w fun e w' => e = .returned (.tuple #[]) ∧ Mem w (fun b => b = bb) w' [(bb, .cells [Zi n0, Zi n1, Zi n2, Zi n3, Zi n4, .slice A b.lows.length c, .slice B b.highs.length d, Zi b.t0, Zi b.t1, Zi b.r0, Zi b.r1, Zi b.u0, Zi b.u1, Zi b.d0, Zi b.d1, Zi b.a0, Zi b.a1, Zi b.b0, Zi b.b1, Zi b.le, Zi b.me])] := by
 obtain ⟨bX, oX, SX⟩ := Sp.oldEx hx hxe
 obtain ⟨bY, oY, SY⟩ := Sp.oldEx hy hye
 refine Zpx (fun b => b = bb) Tryz.func112 rfl 43 rfl [Zj bb, .agg #[.slice X 0 cx, .slice Y 5 cy]] rfl rfl (Mem.initEx (p := .cells (bxM b (.slice A b.lows.length c) (.slice B b.highs.length d))) hq) ?_
 intro ac wc T M
 refine Zsr ?_
 refine Zl2 ?_
 refine Zob M T rfl rfl rfl rfl (T.e 1 rfl) rfl ?_; clear M T; intro g1 wc ac M T
 replace T := T.pick [0, 1] rfl
 refine Zln ?_
 refine Zgs M (M.perm [0] rfl rfl) 44 (by kernel_rfl) rfl (by kernel_rfl) ?_
 clear M; intro wc M
 refine g_addG 28 M ?_
 refine gq T 0 1 rfl (fun _ _ _ _ _ => (Zrm rfl (T.e 1 rfl))) ?_; clear T ac; intro ac T
 refine gq T 1 3 rfl (fun _ _ _ _ _ => (Zrm rfl (T.e 2 rfl))) ?_; clear T ac; intro ac T
 refine gq T 2 7 rfl (fun _ _ _ _ _ => (Zrm rfl (T.e 3 rfl))) ?_; clear T ac; intro ac T
 refine gq T 3 15 rfl (fun _ _ _ _ _ => (Zrm rfl (T.e 4 rfl))) ?_; clear T ac; intro ac T
 refine gq T 4 31 rfl (fun _ _ _ _ _ => (Zrm rfl (T.e 5 rfl))) ?_; clear T ac; intro ac T
 refine gq (v := (.pointer (some ⟨g1, 1, none⟩))) T 5 63 rfl (fun _ _ _ _ _ => (Zrf (off := 1) rfl (T.e 5 rfl) (fun _ _ _ => by kernel_rfl))) ?_; clear T ac; intro ac T
 refine gq T 6 127 rfl (fun B w' hD hl hS => (Zro (Mem.nth (show Mem w (fun b => b = bb) w' _ from ((MA.lft hS) (hD.wait (i := 6) (m := 28) (by kernel_rfl) hl))) 0 rfl) rfl (T.e 0 rfl) rfl)) ?_; clear T ac; intro ac T
 refine gq T 7 255 rfl (fun _ _ _ _ _ => (Zri (size := 1) 0 rfl (T.e 0 rfl) evc ⟨_, Tryz.underlying31, by kernel_rfl⟩ rfl (by omega) (SY.at0 (by omega)))) ?_; clear T ac; intro ac T
 refine gq T 8 511 rfl (fun B w' hD hl hS => (rn_cell (Sp.ic0 SY (show Mem w (fun b => b = bb) w' _ from ((MA.lft hS) (hD.wait (i := 8) (m := 28) (by kernel_rfl) hl))) (Zz9 _) rfl) rfl (T.e 0 rfl))) ?_; clear T ac; intro ac T
 refine gq (v := (.pointer (some ⟨g1, 1, none⟩))) T 9 1023 rfl (fun _ _ _ _ _ => (Zrf (off := 1) rfl (T.e 9 rfl) (fun _ _ _ => by kernel_rfl))) ?_; clear T ac; intro ac T
 refine gq T 10 2047 rfl (fun B w' hD hl hS => (Zro (Mem.nth (show Mem w (fun b => b = bb) w' _ from ((MA.lft hS) (hD.wait (i := 12) (m := 28) (by kernel_rfl) (hD.wait (i := 11) (m := 12) (by kernel_rfl) (hD.wait (i := 10) (m := 11) (by kernel_rfl) hl))))) 0 rfl) rfl (T.e 0 rfl) rfl)) ?_; clear T ac; intro ac T
 refine gq T 11 4095 rfl (fun _ _ _ _ _ => (Zri (size := 1) 1 rfl (T.e 0 rfl) evc ⟨_, Tryz.underlying31, by kernel_rfl⟩ rfl (by omega) (SY.at0 (by omega)))) ?_; clear T ac; intro ac T
 refine gq T 12 8191 rfl (fun B w' hD hl hS => (rn_cell (Sp.ic0 SY (show Mem w (fun b => b = bb) w' _ from ((MA.lft hS) (hD.wait (i := 12) (m := 28) (by kernel_rfl) hl))) (Zz9 _) rfl) rfl (T.e 0 rfl))) ?_; clear T ac; intro ac T
 refine gq (v := (.pointer (some ⟨g1, 1, none⟩))) T 13 16383 rfl (fun _ _ _ _ _ => (Zrf (off := 1) rfl (T.e 13 rfl) (fun _ _ _ => by kernel_rfl))) ?_; clear T ac; intro ac T
 refine gq T 14 32767 rfl (fun B w' hD hl hS => (Zro (Mem.nth (show Mem w (fun b => b = bb) w' _ from ((MA.lft hS) (hD.wait (i := 16) (m := 28) (by kernel_rfl) (hD.wait (i := 15) (m := 16) (by kernel_rfl) (hD.wait (i := 14) (m := 15) (by kernel_rfl) hl))))) 0 rfl) rfl (T.e 0 rfl) rfl)) ?_; clear T ac; intro ac T
 refine gq T 15 65535 rfl (fun _ _ _ _ _ => (Zri (size := 1) 2 rfl (T.e 0 rfl) evc ⟨_, Tryz.underlying31, by kernel_rfl⟩ rfl (by omega) (SY.at0 (by omega)))) ?_; clear T ac; intro ac T
 refine gq T 16 131071 rfl (fun B w' hD hl hS => (rn_cell (Sp.ic0 SY (show Mem w (fun b => b = bb) w' _ from ((MA.lft hS) (hD.wait (i := 16) (m := 28) (by kernel_rfl) hl))) (Zz9 _) rfl) rfl (T.e 0 rfl))) ?_; clear T ac; intro ac T
 refine gq (v := (.pointer (some ⟨g1, 1, none⟩))) T 17 262143 rfl (fun _ _ _ _ _ => (Zrf (off := 1) rfl (T.e 17 rfl) (fun _ _ _ => by kernel_rfl))) ?_; clear T ac; intro ac T
 refine gq T 18 524287 rfl (fun B w' hD hl hS => (Zro (Mem.nth (show Mem w (fun b => b = bb) w' _ from ((MA.lft hS) (hD.wait (i := 20) (m := 28) (by kernel_rfl) (hD.wait (i := 19) (m := 20) (by kernel_rfl) (hD.wait (i := 18) (m := 19) (by kernel_rfl) hl))))) 0 rfl) rfl (T.e 0 rfl) rfl)) ?_; clear T ac; intro ac T
 refine gq T 19 1048575 rfl (fun _ _ _ _ _ => (Zri (size := 1) 3 rfl (T.e 0 rfl) evc ⟨_, Tryz.underlying31, by kernel_rfl⟩ rfl (by omega) (SY.at0 (by omega)))) ?_; clear T ac; intro ac T
 refine gq T 20 2097151 rfl (fun B w' hD hl hS => (rn_cell (Sp.ic0 SY (show Mem w (fun b => b = bb) w' _ from ((MA.lft hS) (hD.wait (i := 20) (m := 28) (by kernel_rfl) hl))) (Zz9 _) rfl) rfl (T.e 0 rfl))) ?_; clear T ac; intro ac T
 refine gq (v := (.pointer (some ⟨g1, 1, none⟩))) T 21 4194303 rfl (fun _ _ _ _ _ => (Zrf (off := 1) rfl (T.e 21 rfl) (fun _ _ _ => by kernel_rfl))) ?_; clear T ac; intro ac T
 refine gq T 22 8388607 rfl (fun B w' hD hl hS => (Zro (Mem.nth (show Mem w (fun b => b = bb) w' _ from ((MA.lft hS) (hD.wait (i := 24) (m := 28) (by kernel_rfl) (hD.wait (i := 23) (m := 24) (by kernel_rfl) (hD.wait (i := 22) (m := 23) (by kernel_rfl) hl))))) 0 rfl) rfl (T.e 0 rfl) rfl)) ?_; clear T ac; intro ac T
 refine gq T 23 16777215 rfl (fun _ _ _ _ _ => (Zri (size := 1) 4 rfl (T.e 0 rfl) evc ⟨_, Tryz.underlying31, by kernel_rfl⟩ rfl (by omega) (SY.at0 (by omega)))) ?_; clear T ac; intro ac T
 refine gq T 24 33554431 rfl (fun B w' hD hl hS => (rn_cell (Sp.ic0 SY (show Mem w (fun b => b = bb) w' _ from ((MA.lft hS) (hD.wait (i := 24) (m := 28) (by kernel_rfl) hl))) (Zz9 _) rfl) rfl (T.e 0 rfl))) ?_; clear T ac; intro ac T
 refine gq T 25 67108863 rfl (fun _ _ _ _ _ => (rn_nil rfl (T.e 24 rfl))) ?_; clear T ac; intro ac T
 refine gq (v := (Zj bb)) T 26 134217727 rfl (fun _ _ _ _ _ => (Zrf (off := 0) rfl (T.e 0 rfl) (fun _ _ _ => by kernel_rfl))) ?_; clear T ac; intro ac T
 refine gq (v := (Zj bb)) T 27 268435455 rfl (fun _ _ _ _ _ => (Zrf (off := 0) rfl (T.e 0 rfl) (fun _ _ _ => by kernel_rfl))) ?_; clear T ac; intro ac T
 refine gw 28 536870911 ?_; intro K hK
 refine Zos M T rfl rfl (T.e 0 rfl) (T.e 19 rfl) rfl (.tail .head) rfl (by simp) rfl (by kernel_rfl) ?_; clear M T; intro wc ac M T
 refine Zso hK _ _ (MA.mk (fun h => (no_of (by kernel_rfl) h).elim) (M.mask [true, false] rfl)) ?_; clear hK K
 refine gq T 29 1073741823 rfl (fun _ _ _ _ _ => (rn_nil rfl (T.e 26 rfl))) ?_; clear T ac; intro ac T
 refine gq (v := (Zj bb)) T 30 2147483647 rfl (fun _ _ _ _ _ => (Zrf (off := 0) rfl (T.e 0 rfl) (fun _ _ _ => by kernel_rfl))) ?_; clear T ac; intro ac T
 refine gq (v := (.pointer (some ⟨bb, 1, none⟩))) T 31 4294967295 rfl (fun _ _ _ _ _ => (Zrf (off := 1) rfl (T.e 0 rfl) (fun _ _ _ => by kernel_rfl))) ?_; clear T ac; intro ac T
 refine gw 32 8589934591 ?_; intro K hK
 refine Zos M T rfl rfl (T.e 0 rfl) (T.e 18 rfl) rfl (.tail .head) rfl (by simp) rfl (by kernel_rfl) ?_; clear M T; intro wc ac M T
 refine Zso hK _ _ (MA.mk (fun h => (no_of (by kernel_rfl) h).elim) (M.mask [true, false] rfl)) ?_; clear hK K
 refine gq T 33 17179869183 rfl (fun _ _ _ _ _ => (rn_nil rfl (T.e 28 rfl))) ?_; clear T ac; intro ac T
 refine gq (v := (Zj bb)) T 34 34359738367 rfl (fun _ _ _ _ _ => (Zrf (off := 0) rfl (T.e 0 rfl) (fun _ _ _ => by kernel_rfl))) ?_; clear T ac; intro ac T
 refine gq (v := (.pointer (some ⟨bb, 2, none⟩))) T 35 68719476735 rfl (fun _ _ _ _ _ => (Zrf (off := 2) rfl (T.e 0 rfl) (fun _ _ _ => by kernel_rfl))) ?_; clear T ac; intro ac T
 refine gw 36 137438953471 ?_; intro K hK
 refine Zos M T rfl rfl (T.e 0 rfl) (T.e 17 rfl) rfl (.tail .head) rfl (by simp) rfl (by kernel_rfl) ?_; clear M T; intro wc ac M T
 refine Zso hK _ _ (MA.mk (fun h => (no_of (by kernel_rfl) h).elim) (M.mask [true, false] rfl)) ?_; clear hK K
 refine gq T 37 274877906943 rfl (fun _ _ _ _ _ => (rn_nil rfl (T.e 30 rfl))) ?_; clear T ac; intro ac T
 refine gq (v := (Zj bb)) T 38 549755813887 rfl (fun _ _ _ _ _ => (Zrf (off := 0) rfl (T.e 0 rfl) (fun _ _ _ => by kernel_rfl))) ?_; clear T ac; intro ac T
 refine gq (v := (.pointer (some ⟨bb, 3, none⟩))) T 39 1099511627775 rfl (fun _ _ _ _ _ => (Zrf (off := 3) rfl (T.e 0 rfl) (fun _ _ _ => by kernel_rfl))) ?_; clear T ac; intro ac T
 refine gw 40 2199023255551 ?_; intro K hK
 refine Zos M T rfl rfl (T.e 0 rfl) (T.e 16 rfl) rfl (.tail .head) rfl (by simp) rfl (by kernel_rfl) ?_; clear M T; intro wc ac M T
 refine Zso hK _ _ (MA.mk (fun h => (no_of (by kernel_rfl) h).elim) (M.mask [true, false] rfl)) ?_; clear hK K
 refine gq T 41 4398046511103 rfl (fun _ _ _ _ _ => (rn_nil rfl (T.e 32 rfl))) ?_; clear T ac; intro ac T
 refine gq (v := (.pointer (some ⟨bb, 4, none⟩))) T 42 8796093022207 rfl (fun _ _ _ _ _ => (Zrf (off := 4) rfl (T.e 0 rfl) (fun _ _ _ => by kernel_rfl))) ?_; clear T ac; intro ac T
 refine gw 43 17592186044415 ?_; intro K hK
 refine Zos M T rfl rfl (T.e 0 rfl) (T.e 14 rfl) rfl (.tail .head) rfl (by simp) rfl (by kernel_rfl) ?_; clear M T; intro wc ac M T
 refine Zso hK _ _ (MA.mk (fun h => (no_of (by kernel_rfl) h).elim) (M.mask [true, false] rfl)) ?_; clear hK K
 refine Zgd (by kernel_rfl) ?_
 replace T := T.pick [] rfl
 replace M := M.mask [false, true] rfl
 refine nm_0 T rfl ?_
 exact ⟨rfl, M.mask [true] rfl⟩
set_option maxHeartbeats 4000000 in
theorem vtake3_any (bb : Nat) (b : Bx) (A : Option Addr) (c : Nat) (B : Option Addr) (d : Nat) (X : Option Addr) (cx : Nat) (Y : Option Addr) (cy : Nat) (u0 u1 d0 d1 a0 a1 b0 b1 t0 t1 r0 r1 le me : Int) (w : World) (hq : Bk w bb #[Zi b.first, Zi b.step, Zi b.span, Zi b.press, Zi b.note, .slice A b.lows.length c, .slice B b.highs.length d, Zi b.t0, Zi b.t1, Zi b.r0, Zi b.r1, Zi b.u0, Zi b.u1, Zi b.d0, Zi b.d1, Zi b.a0, Zi b.a1, Zi b.b0, Zi b.b1, Zi b.le, Zi b.me]) (hx : Rd w w.heap.size 2 X 6 (rc [(u0, u1), (d0, d1), (a0, a1), (b0, b1), (t0, t1), (r0, r1)])) (hxe : ∀ b o, X = some ⟨b, o, none⟩ → b ≠ bb) (hy : Rd w w.heap.size 1 Y 2 (ic [le, me])) (hye : ∀ b o, Y = some ⟨b, o, none⟩ → b ≠ bb) :
  Calls Tryz.prog 115 #[Zj bb, .agg #[.slice X 6 cx, .slice Y 2 cy]] w fun e w' => e = .returned (.tuple #[]) ∧ Mem w (fun b => b = bb) w' [(bb, .cells [Zi b.first, Zi b.step, Zi b.span, Zi b.press, Zi b.note, .slice A b.lows.length c, .slice B b.highs.length d, Zi t0, Zi t1, Zi r0, Zi r1, Zi u0, Zi u1, Zi d0, Zi d1, Zi a0, Zi a1, Zi b0, Zi b1, Zi le, Zi me])] := by
 obtain ⟨bX, oX, SX⟩ := Sp.oldEx hx hxe
 obtain ⟨bY, oY, SY⟩ := Sp.oldEx hy hye
 refine Zpx (fun b => b = bb) Tryz.func115 rfl 65 rfl [Zj bb, .agg #[.slice X 6 cx, .slice Y 2 cy]] rfl rfl (Mem.initEx (p := .cells (bxM b (.slice A b.lows.length c) (.slice B b.highs.length d))) hq) ?_
 intro ac wc T M
 refine Zsr ?_
 refine Zl2 ?_
 refine Zob M T rfl rfl rfl rfl (T.e 1 rfl) rfl ?_; clear M T; intro g1 wc ac M T
 replace T := T.pick [0, 1] rfl
 refine Zln ?_
 refine wp_seq ?_
 refine Zgs M (M.perm [0] rfl rfl) 36 (by kernel_rfl) rfl (by kernel_rfl) ?_
 clear M; intro wc M
 refine g_addG 23 M ?_
 refine gq T 0 1 rfl (fun _ _ _ _ _ => (Zrm rfl (T.e 1 rfl))) ?_; clear T ac; intro ac T
 refine gq T 1 3 rfl (fun _ _ _ _ _ => (Zrm rfl (T.e 2 rfl))) ?_; clear T ac; intro ac T
 refine gq T 2 7 rfl (fun _ _ _ _ _ => (Zrm rfl (T.e 3 rfl))) ?_; clear T ac; intro ac T
 refine gq T 3 15 rfl (fun _ _ _ _ _ => (Zrm rfl (T.e 4 rfl))) ?_; clear T ac; intro ac T
 refine gq (v := (Zj g1)) T 4 31 rfl (fun _ _ _ _ _ => (Zrf (off := 0) rfl (T.e 4 rfl) (fun _ _ _ => by kernel_rfl))) ?_; clear T ac; intro ac T
 refine gq T 5 63 rfl (fun B w' hD hl hS => (Zro (Mem.nth (show Mem w (fun b => b = bb) w' _ from ((MA.lft hS) (hD.wait (i := 5) (m := 23) (by kernel_rfl) hl))) 0 rfl) rfl (T.e 0 rfl) rfl)) ?_; clear T ac; intro ac T
 refine gq T 6 127 rfl (fun _ _ _ _ _ => (Zri (size := 2) 0 rfl (T.e 0 rfl) evc ⟨_, Tryz.underlying57, by kernel_rfl⟩ rfl (by omega) (SX.at0 (by omega)))) ?_; clear T ac; intro ac T
 refine gq (v := (.agg #[Zi u0, Zi u1])) T 7 255 rfl (fun B w' hD hl hS => (rn_rowat (Sp.rcR SX (show Mem w (fun b => b = bb) w' _ from ((MA.lft hS) (hD.wait (i := 7) (m := 23) (by kernel_rfl) hl))) (Zz9 _) rfl) rfl (T.e 0 rfl) rfl)) ?_; clear T ac; intro ac T
 refine gq (v := (Zj g1)) T 8 511 rfl (fun _ _ _ _ _ => (Zrf (off := 0) rfl (T.e 8 rfl) (fun _ _ _ => by kernel_rfl))) ?_; clear T ac; intro ac T
 refine gq T 9 1023 rfl (fun B w' hD hl hS => (Zro (Mem.nth (show Mem w (fun b => b = bb) w' _ from ((MA.lft hS) (hD.wait (i := 11) (m := 23) (by kernel_rfl) (hD.wait (i := 10) (m := 11) (by kernel_rfl) (hD.wait (i := 9) (m := 10) (by kernel_rfl) hl))))) 0 rfl) rfl (T.e 0 rfl) rfl)) ?_; clear T ac; intro ac T
 refine gq T 10 2047 rfl (fun _ _ _ _ _ => (Zri (size := 2) 1 rfl (T.e 0 rfl) evc ⟨_, Tryz.underlying57, by kernel_rfl⟩ rfl (by omega) (SX.at0 (by omega)))) ?_; clear T ac; intro ac T
 refine gq (v := (.agg #[Zi d0, Zi d1])) T 11 4095 rfl (fun B w' hD hl hS => (rn_rowat (Sp.rcR SX (show Mem w (fun b => b = bb) w' _ from ((MA.lft hS) (hD.wait (i := 11) (m := 23) (by kernel_rfl) hl))) (Zz9 _) rfl) rfl (T.e 0 rfl) rfl)) ?_; clear T ac; intro ac T
 refine gq (v := (Zj g1)) T 12 8191 rfl (fun _ _ _ _ _ => (Zrf (off := 0) rfl (T.e 12 rfl) (fun _ _ _ => by kernel_rfl))) ?_; clear T ac; intro ac T
 refine gq T 13 16383 rfl (fun B w' hD hl hS => (Zro (Mem.nth (show Mem w (fun b => b = bb) w' _ from ((MA.lft hS) (hD.wait (i := 15) (m := 23) (by kernel_rfl) (hD.wait (i := 14) (m := 15) (by kernel_rfl) (hD.wait (i := 13) (m := 14) (by kernel_rfl) hl))))) 0 rfl) rfl (T.e 0 rfl) rfl)) ?_; clear T ac; intro ac T
 refine gq T 14 32767 rfl (fun _ _ _ _ _ => (Zri (size := 2) 2 rfl (T.e 0 rfl) evc ⟨_, Tryz.underlying57, by kernel_rfl⟩ rfl (by omega) (SX.at0 (by omega)))) ?_; clear T ac; intro ac T
 refine gq (v := (.agg #[Zi a0, Zi a1])) T 15 65535 rfl (fun B w' hD hl hS => (rn_rowat (Sp.rcR SX (show Mem w (fun b => b = bb) w' _ from ((MA.lft hS) (hD.wait (i := 15) (m := 23) (by kernel_rfl) hl))) (Zz9 _) rfl) rfl (T.e 0 rfl) rfl)) ?_; clear T ac; intro ac T
 refine gq (v := (Zj g1)) T 16 131071 rfl (fun _ _ _ _ _ => (Zrf (off := 0) rfl (T.e 16 rfl) (fun _ _ _ => by kernel_rfl))) ?_; clear T ac; intro ac T
 refine gq T 17 262143 rfl (fun B w' hD hl hS => (Zro (Mem.nth (show Mem w (fun b => b = bb) w' _ from ((MA.lft hS) (hD.wait (i := 19) (m := 23) (by kernel_rfl) (hD.wait (i := 18) (m := 19) (by kernel_rfl) (hD.wait (i := 17) (m := 18) (by kernel_rfl) hl))))) 0 rfl) rfl (T.e 0 rfl) rfl)) ?_; clear T ac; intro ac T
 refine gq T 18 524287 rfl (fun _ _ _ _ _ => (Zri (size := 2) 3 rfl (T.e 0 rfl) evc ⟨_, Tryz.underlying57, by kernel_rfl⟩ rfl (by omega) (SX.at0 (by omega)))) ?_; clear T ac; intro ac T
 refine gq (v := (.agg #[Zi b0, Zi b1])) T 19 1048575 rfl (fun B w' hD hl hS => (rn_rowat (Sp.rcR SX (show Mem w (fun b => b = bb) w' _ from ((MA.lft hS) (hD.wait (i := 19) (m := 23) (by kernel_rfl) hl))) (Zz9 _) rfl) rfl (T.e 0 rfl) rfl)) ?_; clear T ac; intro ac T
 refine gq T 20 2097151 rfl (fun _ _ _ _ _ => (rn_nil rfl (T.e 19 rfl))) ?_; clear T ac; intro ac T
 refine gq (v := (.pointer (some ⟨bb, 11, none⟩))) T 21 4194303 rfl (fun _ _ _ _ _ => (Zrf (off := 11) rfl (T.e 0 rfl) (fun _ _ _ => by kernel_rfl))) ?_; clear T ac; intro ac T
 refine gq (v := (.pointer (some ⟨bb, 11, none⟩))) T 22 8388607 rfl (fun _ _ _ _ _ => (Zrf (off := 0) rfl (T.e 0 rfl) (fun _ _ _ => by kernel_rfl))) ?_; clear T ac; intro ac T
 refine gw 23 16777215 ?_; intro K hK
 refine Zos M T rfl rfl (T.e 0 rfl) (T.e 15 rfl) rfl (.tail .head) rfl (by simp) rfl (by kernel_rfl) ?_; clear M T; intro wc ac M T
 refine Zso hK _ _ (MA.mk (fun h => (no_of (by kernel_rfl) h).elim) (M.mask [true, false] rfl)) ?_; clear hK K
 refine gq T 24 33554431 rfl (fun _ _ _ _ _ => (rn_nil rfl (T.e 21 rfl))) ?_; clear T ac; intro ac T
 refine gq (v := (.pointer (some ⟨bb, 11, none⟩))) T 25 67108863 rfl (fun _ _ _ _ _ => (Zrf (off := 11) rfl (T.e 0 rfl) (fun _ _ _ => by kernel_rfl))) ?_; clear T ac; intro ac T
 refine gq (v := (.pointer (some ⟨bb, 13, none⟩))) T 26 134217727 rfl (fun _ _ _ _ _ => (Zrf (off := 2) rfl (T.e 0 rfl) (fun _ _ _ => by kernel_rfl))) ?_; clear T ac; intro ac T
 refine gw 27 268435455 ?_; intro K hK
 refine Zos M T rfl rfl (T.e 0 rfl) (T.e 14 rfl) rfl (.tail .head) rfl (by simp) rfl (by kernel_rfl) ?_; clear M T; intro wc ac M T
 refine Zso hK _ _ (MA.mk (fun h => (no_of (by kernel_rfl) h).elim) (M.mask [true, false] rfl)) ?_; clear hK K
 refine gq T 28 536870911 rfl (fun _ _ _ _ _ => (rn_nil rfl (T.e 23 rfl))) ?_; clear T ac; intro ac T
 refine gq (v := (.pointer (some ⟨bb, 11, none⟩))) T 29 1073741823 rfl (fun _ _ _ _ _ => (Zrf (off := 11) rfl (T.e 0 rfl) (fun _ _ _ => by kernel_rfl))) ?_; clear T ac; intro ac T
 refine gq (v := (.pointer (some ⟨bb, 15, none⟩))) T 30 2147483647 rfl (fun _ _ _ _ _ => (Zrf (off := 4) rfl (T.e 0 rfl) (fun _ _ _ => by kernel_rfl))) ?_; clear T ac; intro ac T
 refine gw 31 4294967295 ?_; intro K hK
 refine Zos M T rfl rfl (T.e 0 rfl) (T.e 13 rfl) rfl (.tail .head) rfl (by simp) rfl (by kernel_rfl) ?_; clear M T; intro wc ac M T
 refine Zso hK _ _ (MA.mk (fun h => (no_of (by kernel_rfl) h).elim) (M.mask [true, false] rfl)) ?_; clear hK K
 refine gq T 32 8589934591 rfl (fun _ _ _ _ _ => (rn_nil rfl (T.e 25 rfl))) ?_; clear T ac; intro ac T
 refine gq (v := (.pointer (some ⟨bb, 11, none⟩))) T 33 17179869183 rfl (fun _ _ _ _ _ => (Zrf (off := 11) rfl (T.e 0 rfl) (fun _ _ _ => by kernel_rfl))) ?_; clear T ac; intro ac T
 refine gq (v := (.pointer (some ⟨bb, 17, none⟩))) T 34 34359738367 rfl (fun _ _ _ _ _ => (Zrf (off := 6) rfl (T.e 0 rfl) (fun _ _ _ => by kernel_rfl))) ?_; clear T ac; intro ac T
 refine gw 35 68719476735 ?_; intro K hK
 refine Zos M T rfl rfl (T.e 0 rfl) (T.e 12 rfl) rfl (.tail .head) rfl (by simp) rfl (by kernel_rfl) ?_; clear M T; intro wc ac M T
 refine Zso hK _ _ (MA.mk (fun h => (no_of (by kernel_rfl) h).elim) (M.mask [true, false] rfl)) ?_; clear hK K
 refine Zgd (by kernel_rfl) ?_
 replace T := T.pick [32, 33] rfl
 refine nm_then ?_
 refine Zgs M (M.perm [0] rfl rfl) 33 (by kernel_rfl) rfl (by kernel_rfl) ?_
 clear M; intro wc M
 refine g_addG 22 M ?_
 refine gq T 0 1 rfl (fun _ _ _ _ _ => (Zrm rfl (T.e 1 rfl))) ?_; clear T ac; intro ac T
 refine gq T 1 3 rfl (fun _ _ _ _ _ => (Zrm rfl (T.e 2 rfl))) ?_; clear T ac; intro ac T
 refine gq T 2 7 rfl (fun _ _ _ _ _ => (Zrm rfl (T.e 3 rfl))) ?_; clear T ac; intro ac T
 refine gq T 3 15 rfl (fun _ _ _ _ _ => (Zrm rfl (T.e 4 rfl))) ?_; clear T ac; intro ac T
 refine gq (v := (Zj g1)) T 4 31 rfl (fun _ _ _ _ _ => (Zrf (off := 0) rfl (T.e 4 rfl) (fun _ _ _ => by kernel_rfl))) ?_; clear T ac; intro ac T
 refine gq T 5 63 rfl (fun B w' hD hl hS => (Zro (Mem.nth (show Mem w (fun b => b = bb) w' _ from ((MA.lft hS) (hD.wait (i := 5) (m := 22) (by kernel_rfl) hl))) 0 rfl) rfl (T.e 0 rfl) rfl)) ?_; clear T ac; intro ac T
 refine gq T 6 127 rfl (fun _ _ _ _ _ => (Zri (size := 2) 4 rfl (T.e 0 rfl) evc ⟨_, Tryz.underlying57, by kernel_rfl⟩ rfl (by omega) (SX.at0 (by omega)))) ?_; clear T ac; intro ac T
 refine gq (v := (.agg #[Zi t0, Zi t1])) T 7 255 rfl (fun B w' hD hl hS => (rn_rowat (Sp.rcR SX (show Mem w (fun b => b = bb) w' _ from ((MA.lft hS) (hD.wait (i := 7) (m := 22) (by kernel_rfl) hl))) (Zz9 _) rfl) rfl (T.e 0 rfl) rfl)) ?_; clear T ac; intro ac T
 refine gq (v := (Zj g1)) T 8 511 rfl (fun _ _ _ _ _ => (Zrf (off := 0) rfl (T.e 8 rfl) (fun _ _ _ => by kernel_rfl))) ?_; clear T ac; intro ac T
 refine gq T 9 1023 rfl (fun B w' hD hl hS => (Zro (Mem.nth (show Mem w (fun b => b = bb) w' _ from ((MA.lft hS) (hD.wait (i := 11) (m := 22) (by kernel_rfl) (hD.wait (i := 10) (m := 11) (by kernel_rfl) (hD.wait (i := 9) (m := 10) (by kernel_rfl) hl))))) 0 rfl) rfl (T.e 0 rfl) rfl)) ?_; clear T ac; intro ac T
 refine gq T 10 2047 rfl (fun _ _ _ _ _ => (Zri (size := 2) 5 rfl (T.e 0 rfl) evc ⟨_, Tryz.underlying57, by kernel_rfl⟩ rfl (by omega) (SX.at0 (by omega)))) ?_; clear T ac; intro ac T
 refine gq (v := (.agg #[Zi r0, Zi r1])) T 11 4095 rfl (fun B w' hD hl hS => (rn_rowat (Sp.rcR SX (show Mem w (fun b => b = bb) w' _ from ((MA.lft hS) (hD.wait (i := 11) (m := 22) (by kernel_rfl) hl))) (Zz9 _) rfl) rfl (T.e 0 rfl) rfl)) ?_; clear T ac; intro ac T
 refine gq (v := (.pointer (some ⟨g1, 1, none⟩))) T 12 8191 rfl (fun _ _ _ _ _ => (Zrf (off := 1) rfl (T.e 12 rfl) (fun _ _ _ => by kernel_rfl))) ?_; clear T ac; intro ac T
 refine gq T 13 16383 rfl (fun B w' hD hl hS => (Zro (Mem.nth (show Mem w (fun b => b = bb) w' _ from ((MA.lft hS) (hD.wait (i := 15) (m := 22) (by kernel_rfl) (hD.wait (i := 14) (m := 15) (by kernel_rfl) (hD.wait (i := 13) (m := 14) (by kernel_rfl) hl))))) 0 rfl) rfl (T.e 0 rfl) rfl)) ?_; clear T ac; intro ac T
 refine gq T 14 32767 rfl (fun _ _ _ _ _ => (Zri (size := 1) 0 rfl (T.e 0 rfl) evc ⟨_, Tryz.underlying31, by kernel_rfl⟩ rfl (by omega) (SY.at0 (by omega)))) ?_; clear T ac; intro ac T
 refine gq T 15 65535 rfl (fun B w' hD hl hS => (rn_cell (Sp.ic0 SY (show Mem w (fun b => b = bb) w' _ from ((MA.lft hS) (hD.wait (i := 15) (m := 22) (by kernel_rfl) hl))) (Zz9 _) rfl) rfl (T.e 0 rfl))) ?_; clear T ac; intro ac T
 refine gq (v := (.pointer (some ⟨g1, 1, none⟩))) T 16 131071 rfl (fun _ _ _ _ _ => (Zrf (off := 1) rfl (T.e 16 rfl) (fun _ _ _ => by kernel_rfl))) ?_; clear T ac; intro ac T
 refine gq T 17 262143 rfl (fun B w' hD hl hS => (Zro (Mem.nth (show Mem w (fun b => b = bb) w' _ from ((MA.lft hS) (hD.wait (i := 19) (m := 22) (by kernel_rfl) (hD.wait (i := 18) (m := 19) (by kernel_rfl) (hD.wait (i := 17) (m := 18) (by kernel_rfl) hl))))) 0 rfl) rfl (T.e 0 rfl) rfl)) ?_; clear T ac; intro ac T
 refine gq T 18 524287 rfl (fun _ _ _ _ _ => (Zri (size := 1) 1 rfl (T.e 0 rfl) evc ⟨_, Tryz.underlying31, by kernel_rfl⟩ rfl (by omega) (SY.at0 (by omega)))) ?_; clear T ac; intro ac T
 refine gq T 19 1048575 rfl (fun B w' hD hl hS => (rn_cell (Sp.ic0 SY (show Mem w (fun b => b = bb) w' _ from ((MA.lft hS) (hD.wait (i := 19) (m := 22) (by kernel_rfl) hl))) (Zz9 _) rfl) rfl (T.e 0 rfl))) ?_; clear T ac; intro ac T
 refine gq T 20 2097151 rfl (fun _ _ _ _ _ => (rn_nil rfl (T.e 19 rfl))) ?_; clear T ac; intro ac T
 refine gq (v := (.pointer (some ⟨bb, 7, none⟩))) T 21 4194303 rfl (fun _ _ _ _ _ => (Zrf (off := 7) rfl (T.e 0 rfl) (fun _ _ _ => by kernel_rfl))) ?_; clear T ac; intro ac T
 refine gw 22 8388607 ?_; intro K hK
 refine Zos M T rfl rfl (T.e 0 rfl) (T.e 14 rfl) rfl (.tail .head) rfl (by simp) rfl (by kernel_rfl) ?_; clear M T; intro wc ac M T
 refine Zso hK _ _ (MA.mk (fun h => (no_of (by kernel_rfl) h).elim) (M.mask [true, false] rfl)) ?_; clear hK K
 refine gq T 23 16777215 rfl (fun _ _ _ _ _ => (rn_nil rfl (T.e 20 rfl))) ?_; clear T ac; intro ac T
 refine gq (v := (.pointer (some ⟨bb, 9, none⟩))) T 24 33554431 rfl (fun _ _ _ _ _ => (Zrf (off := 9) rfl (T.e 0 rfl) (fun _ _ _ => by kernel_rfl))) ?_; clear T ac; intro ac T
 refine gw 25 67108863 ?_; intro K hK
 refine Zos M T rfl rfl (T.e 0 rfl) (T.e 12 rfl) rfl (.tail .head) rfl (by simp) rfl (by kernel_rfl) ?_; clear M T; intro wc ac M T
 refine Zso hK _ _ (MA.mk (fun h => (no_of (by kernel_rfl) h).elim) (M.mask [true, false] rfl)) ?_; clear hK K
 refine gq T 26 134217727 rfl (fun _ _ _ _ _ => (rn_nil rfl (T.e 21 rfl))) ?_; clear T ac; intro ac T
 refine gq (v := (.pointer (some ⟨bb, 11, none⟩))) T 27 268435455 rfl (fun _ _ _ _ _ => (Zrf (off := 11) rfl (T.e 0 rfl) (fun _ _ _ => by kernel_rfl))) ?_; clear T ac; intro ac T
 refine gq (v := (.pointer (some ⟨bb, 19, none⟩))) T 28 536870911 rfl (fun _ _ _ _ _ => (Zrf (off := 8) rfl (T.e 0 rfl) (fun _ _ _ => by kernel_rfl))) ?_; clear T ac; intro ac T
 refine gw 29 1073741823 ?_; intro K hK
 refine Zos M T rfl rfl (T.e 0 rfl) (T.e 11 rfl) rfl (.tail .head) rfl (by simp) rfl (by kernel_rfl) ?_; clear M T; intro wc ac M T
 refine Zso hK _ _ (MA.mk (fun h => (no_of (by kernel_rfl) h).elim) (M.mask [true, false] rfl)) ?_; clear hK K
 refine gq T 30 2147483647 rfl (fun _ _ _ _ _ => (rn_nil rfl (T.e 23 rfl))) ?_; clear T ac; intro ac T
 refine gq (v := (.pointer (some ⟨bb, 20, none⟩))) T 31 4294967295 rfl (fun _ _ _ _ _ => (Zrf (off := 20) rfl (T.e 0 rfl) (fun _ _ _ => by kernel_rfl))) ?_; clear T ac; intro ac T
 refine gw 32 8589934591 ?_; intro K hK
 refine Zos M T rfl rfl (T.e 0 rfl) (T.e 9 rfl) rfl (.tail .head) rfl (by simp) rfl (by kernel_rfl) ?_; clear M T; intro wc ac M T
 refine Zso hK _ _ (MA.mk (fun h => (no_of (by kernel_rfl) h).elim) (M.mask [true, false] rfl)) ?_; clear hK K
 refine Zgd (by kernel_rfl) ?_
 replace T := T.pick [] rfl
 replace M := M.mask [false, true] rfl
 refine nm_0 T rfl ?_
 exact ⟨rfl, M.mask [true] rfl⟩
theorem sound1_any (X : Option Addr) (cx : Nat) (Y : Option Addr) (cy : Nat) (ny : Nat) (s0 s1 s2 s3 : Int) (w : World) (hx : Rd w w.heap.size 2 X 2 (rc [(s0, s1), (s2, s3)])) :
  Calls Tryz.prog 111 #[.agg #[.slice X 2 cx, .slice Y ny cy]] w fun e w' => e = .returned (.agg #[Zi s0, Zi s1, Zi s2, Zi s3]) ∧ Below w.heap.size w w' := by
 obtain ⟨bX, oX, SX⟩ := Sp.old hx
 refine Zpx noEx Tryz.func111 rfl 12 rfl [.agg #[.slice X 2 cx, .slice Y ny cy]] rfl rfl (Mem.init w _) ?_
 intro ac wc T M
 refine Zsr ?_
 refine Zl2 ?_
 refine Zob M T rfl rfl rfl rfl (T.e 0 rfl) rfl ?_; clear M T; intro g1 wc ac M T
 refine Zl2 ?_
 refine Zoa M T rfl rfl rfl rfl ?_; clear M T; intro g2 wc ac M T
 replace T := T.pick [0, 1] rfl
 refine Zln ?_
 refine wp_seq ?_
 refine Zgs M (M.perm [1] rfl rfl) 10 (by kernel_rfl) rfl (by kernel_rfl) ?_
 clear M; intro wc M
 refine g_addG 9 M ?_
 refine gq (v := (Zj g1)) T 0 1 rfl (fun _ _ _ _ _ => (Zrf (off := 0) rfl (T.e 1 rfl) (fun _ _ _ => by kernel_rfl))) ?_; clear T ac; intro ac T
 refine gq T 1 3 rfl (fun B w' hD hl hS => (Zro (Mem.nth (show Mem w noEx w' _ from ((MA.lft hS) (hD.wait (i := 1) (m := 9) (by kernel_rfl) hl))) 1 rfl) rfl (T.e 0 rfl) rfl)) ?_; clear T ac; intro ac T
 refine gq T 2 7 rfl (fun _ _ _ _ _ => (Zri (size := 2) 0 rfl (T.e 0 rfl) evc ⟨_, Tryz.underlying57, by kernel_rfl⟩ rfl (by omega) (SX.at0 (by omega)))) ?_; clear T ac; intro ac T
 refine gq (v := (.agg #[Zi s0, Zi s1])) T 3 15 rfl (fun B w' hD hl hS => (rn_rowat (Sp.rcR SX (show Mem w noEx w' _ from ((MA.lft hS) (hD.wait (i := 3) (m := 9) (by kernel_rfl) hl))) (Zz9 _) rfl) rfl (T.e 0 rfl) rfl)) ?_; clear T ac; intro ac T
 refine gq (v := (Zj g1)) T 4 31 rfl (fun _ _ _ _ _ => (Zrf (off := 0) rfl (T.e 5 rfl) (fun _ _ _ => by kernel_rfl))) ?_; clear T ac; intro ac T
 refine gq T 5 63 rfl (fun B w' hD hl hS => (Zro (Mem.nth (show Mem w noEx w' _ from ((MA.lft hS) (hD.wait (i := 5) (m := 9) (by kernel_rfl) hl))) 1 rfl) rfl (T.e 0 rfl) rfl)) ?_; clear T ac; intro ac T
 refine gq T 6 127 rfl (fun _ _ _ _ _ => (Zri (size := 2) 1 rfl (T.e 0 rfl) evc ⟨_, Tryz.underlying57, by kernel_rfl⟩ rfl (by omega) (SX.at0 (by omega)))) ?_; clear T ac; intro ac T
 refine gq (v := (.agg #[Zi s2, Zi s3])) T 7 255 rfl (fun B w' hD hl hS => (rn_rowat (Sp.rcR SX (show Mem w noEx w' _ from ((MA.lft hS) (hD.wait (i := 7) (m := 9) (by kernel_rfl) hl))) (Zz9 _) rfl) rfl (T.e 0 rfl) rfl)) ?_; clear T ac; intro ac T
 refine gq (v := (.agg #[Zi s0, Zi s1, Zi s2, Zi s3])) T 8 511 rfl (fun _ _ _ _ _ => (rn_build rfl (.cons (T.e 4 rfl) (.cons (T.e 0 rfl) .nil)) (fun _ => by kernel_rfl))) ?_; clear T ac; intro ac T
 refine gw 9 1023 ?_; intro K hK
 refine Zos M T rfl rfl (T.e 9 rfl) (T.e 0 rfl) rfl .head rfl (by simp) rfl (by kernel_rfl) ?_; clear M T; intro wc ac M T
 refine Zso hK _ _ (MA.mk (fun h => (no_of (by kernel_rfl) h).elim) (M.mask [false, true] rfl)) ?_; clear hK K
 refine Zgd (by kernel_rfl) ?_
 replace T := T.pick [9] rfl
 replace M := M.mask [true, false] rfl
 refine Znr ?_
 refine rt_c M T rfl (T.e 0 rfl) (Zne (i := 0) rfl) rfl ?_
 exact ⟨rfl, M.below⟩
theorem vtake1_any (bb gs : Nat) (b : Bx) (A : Option Addr) (c : Nat) (B : Option Addr) (d : Nat) (Ia Ib : List (Nat × BA)) (exq : Nat → Prop) (X : Option Addr) (cx : Nat) (Y : Option Addr) (cy : Nat) (ny bX oX : Nat) (s0 s1 s2 s3 : Int) (w : World) (hj : b.lows.length ≤ 800000) (hsA : Sl 77 4 (.slice A b.lows.length c) b.lows.length (sc b.lows) Ia) (SX : Sp w exq [] X 2 2 bX oX (rc [(s0, s1), (s2, s3)])) (M0 : Mem w exq w ((bb, .cells (bxM b (.slice A b.lows.length c) (.slice B b.highs.length d))) :: (Ib ++ Ia))) (qs : Bk w gs #[.func (.func 111) #[] #[]]) (hgs : ¬ exq gs) :
  Calls Tryz.prog 113 #[Zj bb, .agg #[.slice X 2 cx, .slice Y ny cy], Zj gs] w fun e w' => ∃ g cap, e = .returned (.tuple #[]) ∧ Mem w exq w' ((bb, .cells [Zi b.first, Zi b.step, Zi b.span, Zi b.press, Zi b.note, .slice (some ⟨g, 0, none⟩) (b.lows.length + 1) cap, .slice B b.highs.length d, Zi b.t0, Zi b.t1, Zi b.r0, Zi b.r1, Zi b.u0, Zi b.u1, Zi b.d0, Zi b.d1, Zi b.a0, Zi b.a1, Zi b.b0, Zi b.b1, Zi b.le, Zi b.me]) :: (g, .row 77 4 (b.lows.length + 1) (sc b.lows ++ sc [⟨s0, s1, s2, s3⟩]) cap) :: Ib) := by
 refine Zpx exq Tryz.func113 rfl 17 rfl [Zj bb, .agg #[.slice X 2 cx, .slice Y ny cy], Zj gs] rfl rfl M0 ?_
 intro ac wc T M
 refine Zsr ?_
 refine Zl2 ?_
 refine Zob M T rfl rfl rfl rfl (T.e 1 rfl) rfl ?_; clear M T; intro g1 wc ac M T
 replace T := T.pick [0, 1, 3] rfl
 refine Zln ?_
 refine Zgs M (M.perm [0] rfl rfl) 13 (by kernel_rfl) rfl (by kernel_rfl) ?_
 clear M; intro wc M
 refine g_addG 12 ((M.mask [true, true] rfl).sub (List.Sublist.cons_cons _ (List.Sublist.cons_cons _ (Zsl _ _)))) ?_
 refine gq T 0 1 rfl (fun _ _ _ _ _ => (Zrm rfl (T.e 1 rfl))) ?_; clear T ac; intro ac T
 refine gq T 1 3 rfl (fun _ _ _ _ _ => (Zrm rfl (T.e 2 rfl))) ?_; clear T ac; intro ac T
 refine gq T 2 7 rfl (fun _ _ _ _ _ => (rn_nil rfl (T.e 0 rfl))) ?_; clear T ac; intro ac T
 refine gq (v := (.pointer (some ⟨bb, 5, none⟩))) T 3 15 rfl (fun _ _ _ _ _ => (Zrf (off := 5) rfl (T.e 0 rfl) (fun _ _ _ => by kernel_rfl))) ?_; clear T ac; intro ac T
 refine gq T 4 31 rfl (fun B w' hD hl hS => (Zro (Mem.nth (show Mem w exq w' _ from ((MA.lft hS) (hD.wait (i := 4) (m := 12) (by kernel_rfl) hl))) 1 rfl) rfl (T.e 0 rfl) rfl)) ?_; clear T ac; intro ac T
 refine gq T 5 63 rfl (fun B w' hD hl hS => (Zro (Mem.old (show Mem w exq w' _ from ((MA.lft hS) (hD.wait (i := 5) (m := 12) (by kernel_rfl) hl))) qs hgs) rfl (T.e 7 rfl) rfl)) ?_; clear T ac; intro ac T
 refine gq T 6 127 rfl (fun B w' hD hl hS => (Zrr (Mem.nth (show Mem w exq w' _ from ((MA.lft hS) (hD.wait (i := 6) (m := 12) (by kernel_rfl) hl))) 0 rfl) rfl (T.e 6 rfl) rfl)) ?_; clear T ac; intro ac T
 refine gw 7 255 ?_; intro K hK
 refine Zoc (first := []) (cap := []) T rfl rfl rfl rfl (T.e 1 rfl) (.cons (T.e 0 rfl) .nil) Tryz.func111 rfl rfl ?_
 refine Calls.mono (sound1_any X cx Y cy ny s0 s1 s2 s3 _ (SX.rd M (Zz9 _))) ?_
 clear T; rintro e wc ⟨rfl, hb⟩ ac T
 replace M := M.call hb; clear hb
 refine Zso hK _ _ (MA.mk (fun _ => (M.mask [true, true] rfl).sub (List.Sublist.cons_cons _ (List.Sublist.cons_cons _ (Zsl _ _)))) (M.perm [0] rfl rfl)) ?_; clear hK K
 refine gw 8 511 ?_; intro K hK
 refine ow_bs (e := 77) [Zi s0, Zi s1, Zi s2, Zi s3] M T rfl rfl rfl rfl (.cons (T.e 0 rfl) .nil) (fun _ => by kernel_rfl) ?_; clear M T; intro g2 wc ac M T
 refine Zso hK _ _ (MA.mk (fun _ => (M.mask [false, true, true] rfl).sub (List.Sublist.cons_cons _ (List.Sublist.cons_cons _ (Zsl _ _)))) (M.perm [1] rfl rfl)) ?_; clear hK K
 refine gw 9 1023 ?_; intro K hK
 refine ow_app (((g2, .cells [Zi s0, Zi s1, Zi s2, Zi s3]) :: (g1, .cells [.slice X 2 cx, .slice Y ny cy]) :: (bb, .cells (bxM b (.slice A b.lows.length c) (.slice B b.highs.length d))) :: Ib)) Tryz.info77 hsA M (by first | rfl | simp) T rfl rfl rfl rfl Tryz.underlying24 rfl rfl rfl (by omega) (T.e 4 rfl) (T.e 0 rfl) (Zne (i := 0) rfl) rfl rfl ?_; clear M T; intro ga1 cga1 wc ac M T
 refine Zso hK _ _ (MA.mk (fun _ => M.mask [false, false, true, true] rfl) (M.perm [2] rfl rfl)) ?_; clear hK K
 refine gq T 10 2047 rfl (fun _ _ _ _ _ => (rn_nil rfl (T.e 9 rfl))) ?_; clear T ac; intro ac T
 refine gq (v := (.pointer (some ⟨bb, 5, none⟩))) T 11 4095 rfl (fun _ _ _ _ _ => (Zrf (off := 5) rfl (T.e 0 rfl) (fun _ _ _ => by kernel_rfl))) ?_; clear T ac; intro ac T
 refine gw 12 8191 ?_; intro K hK
 refine Zos M T rfl rfl (T.e 0 rfl) (T.e 2 rfl) rfl (.tail (.tail (.tail .head))) rfl (by simp) rfl (by kernel_rfl) ?_; clear M T; intro wc ac M T
 refine Zso hK _ _ (MA.mk (fun h => (no_of (by kernel_rfl) h).elim) (M.perm [2] rfl rfl)) ?_; clear hK K
 refine Zgd (by kernel_rfl) ?_
 replace T := T.pick [] rfl
 replace M := M.mask [true, false, false, true] rfl
 refine nm_0 T rfl ?_
 exact ⟨ga1, _, rfl, M.permT [1, 0] 2 rfl rfl rfl rfl⟩
theorem vtake2_any (bb gs : Nat) (b : Bx) (A : Option Addr) (c : Nat) (B : Option Addr) (d : Nat) (Ia Ib : List (Nat × BA)) (exq : Nat → Prop) (X : Option Addr) (cx : Nat) (Y : Option Addr) (cy : Nat) (ny bX oX : Nat) (s0 s1 s2 s3 : Int) (w : World) (hj : b.highs.length ≤ 800000) (hsB : Sl 77 4 (.slice B b.highs.length d) b.highs.length (sc b.highs) Ib) (SX : Sp w exq [] X 2 2 bX oX (rc [(s0, s1), (s2, s3)])) (M0 : Mem w exq w ((bb, .cells (bxM b (.slice A b.lows.length c) (.slice B b.highs.length d))) :: (Ia ++ Ib))) (qs : Bk w gs #[.func (.func 111) #[] #[]]) (hgs : ¬ exq gs) :
  Calls Tryz.prog 114 #[Zj bb, .agg #[.slice X 2 cx, .slice Y ny cy], Zj gs] w fun e w' => ∃ g cap, e = .returned (.tuple #[]) ∧ Mem w exq w' ((bb, .cells [Zi b.first, Zi b.step, Zi b.span, Zi b.press, Zi b.note, .slice A b.lows.length c, .slice (some ⟨g, 0, none⟩) (b.highs.length + 1) cap, Zi b.t0, Zi b.t1, Zi b.r0, Zi b.r1, Zi b.u0, Zi b.u1, Zi b.d0, Zi b.d1, Zi b.a0, Zi b.a1, Zi b.b0, Zi b.b1, Zi b.le, Zi b.me]) :: (g, .row 77 4 (b.highs.length + 1) (sc b.highs ++ sc [⟨s0, s1, s2, s3⟩]) cap) :: Ia) := by
 refine Zpx exq Tryz.func114 rfl 17 rfl [Zj bb, .agg #[.slice X 2 cx, .slice Y ny cy], Zj gs] rfl rfl M0 ?_
 intro ac wc T M
 refine Zsr ?_
 refine Zl2 ?_
 refine Zob M T rfl rfl rfl rfl (T.e 1 rfl) rfl ?_; clear M T; intro g1 wc ac M T
 replace T := T.pick [0, 1, 3] rfl
 refine Zln ?_
 refine Zgs M (M.perm [0] rfl rfl) 13 (by kernel_rfl) rfl (by kernel_rfl) ?_
 clear M; intro wc M
 refine g_addG 12 ((M.mask [true, true] rfl).sub (List.Sublist.cons_cons _ (List.Sublist.cons_cons _ (Zsl _ _)))) ?_
 refine gq T 0 1 rfl (fun _ _ _ _ _ => (Zrm rfl (T.e 1 rfl))) ?_; clear T ac; intro ac T
 refine gq T 1 3 rfl (fun _ _ _ _ _ => (Zrm rfl (T.e 2 rfl))) ?_; clear T ac; intro ac T
 refine gq T 2 7 rfl (fun _ _ _ _ _ => (rn_nil rfl (T.e 0 rfl))) ?_; clear T ac; intro ac T
 refine gq (v := (.pointer (some ⟨bb, 6, none⟩))) T 3 15 rfl (fun _ _ _ _ _ => (Zrf (off := 6) rfl (T.e 0 rfl) (fun _ _ _ => by kernel_rfl))) ?_; clear T ac; intro ac T
 refine gq T 4 31 rfl (fun B w' hD hl hS => (Zro (Mem.nth (show Mem w exq w' _ from ((MA.lft hS) (hD.wait (i := 4) (m := 12) (by kernel_rfl) hl))) 1 rfl) rfl (T.e 0 rfl) rfl)) ?_; clear T ac; intro ac T
 refine gq T 5 63 rfl (fun B w' hD hl hS => (Zro (Mem.old (show Mem w exq w' _ from ((MA.lft hS) (hD.wait (i := 5) (m := 12) (by kernel_rfl) hl))) qs hgs) rfl (T.e 7 rfl) rfl)) ?_; clear T ac; intro ac T
 refine gq T 6 127 rfl (fun B w' hD hl hS => (Zrr (Mem.nth (show Mem w exq w' _ from ((MA.lft hS) (hD.wait (i := 6) (m := 12) (by kernel_rfl) hl))) 0 rfl) rfl (T.e 6 rfl) rfl)) ?_; clear T ac; intro ac T
 refine gw 7 255 ?_; intro K hK
 refine Zoc (first := []) (cap := []) T rfl rfl rfl rfl (T.e 1 rfl) (.cons (T.e 0 rfl) .nil) Tryz.func111 rfl rfl ?_
 refine Calls.mono (sound1_any X cx Y cy ny s0 s1 s2 s3 _ (SX.rd M (Zz9 _))) ?_
 clear T; rintro e wc ⟨rfl, hb⟩ ac T
 replace M := M.call hb; clear hb
 refine Zso hK _ _ (MA.mk (fun _ => (M.mask [true, true] rfl).sub (List.Sublist.cons_cons _ (List.Sublist.cons_cons _ (Zsl _ _)))) (M.perm [0] rfl rfl)) ?_; clear hK K
 refine gw 8 511 ?_; intro K hK
 refine ow_bs (e := 77) [Zi s0, Zi s1, Zi s2, Zi s3] M T rfl rfl rfl rfl (.cons (T.e 0 rfl) .nil) (fun _ => by kernel_rfl) ?_; clear M T; intro g2 wc ac M T
 refine Zso hK _ _ (MA.mk (fun _ => (M.mask [false, true, true] rfl).sub (List.Sublist.cons_cons _ (List.Sublist.cons_cons _ (Zsl _ _)))) (M.perm [1] rfl rfl)) ?_; clear hK K
 refine gw 9 1023 ?_; intro K hK
 refine ow_app (((g2, .cells [Zi s0, Zi s1, Zi s2, Zi s3]) :: (g1, .cells [.slice X 2 cx, .slice Y ny cy]) :: (bb, .cells (bxM b (.slice A b.lows.length c) (.slice B b.highs.length d))) :: Ia)) Tryz.info77 hsB M (by first | rfl | simp) T rfl rfl rfl rfl Tryz.underlying24 rfl rfl rfl (by omega) (T.e 4 rfl) (T.e 0 rfl) (Zne (i := 0) rfl) rfl rfl ?_; clear M T; intro ga1 cga1 wc ac M T
 refine Zso hK _ _ (MA.mk (fun _ => M.mask [false, false, true, true] rfl) (M.perm [2] rfl rfl)) ?_; clear hK K
 refine gq T 10 2047 rfl (fun _ _ _ _ _ => (rn_nil rfl (T.e 9 rfl))) ?_; clear T ac; intro ac T
 refine gq (v := (.pointer (some ⟨bb, 6, none⟩))) T 11 4095 rfl (fun _ _ _ _ _ => (Zrf (off := 6) rfl (T.e 0 rfl) (fun _ _ _ => by kernel_rfl))) ?_; clear T ac; intro ac T
 refine gw 12 8191 ?_; intro K hK
 refine Zos M T rfl rfl (T.e 0 rfl) (T.e 2 rfl) rfl (.tail (.tail (.tail .head))) rfl (by simp) rfl (by kernel_rfl) ?_; clear M T; intro wc ac M T
 refine Zso hK _ _ (MA.mk (fun h => (no_of (by kernel_rfl) h).elim) (M.perm [2] rfl rfl)) ?_; clear hK K
 refine Zgd (by kernel_rfl) ?_
 replace T := T.pick [] rfl
 replace M := M.mask [true, false, false, true] rfl
 refine nm_0 T rfl ?_
 exact ⟨ga1, _, rfl, M.permT [1, 0] 2 rfl rfl rfl rfl⟩
def sumF {α : Type} (f : α → Nat) : List α → Nat
 | [] => 0
 | x :: l => f x + sumF f l
theorem sumF_app {α : Type} (f : α → Nat) : ∀ (l m : List α), sumF f (l ++ m) = sumF f l + sumF f m
 | [], m => (Nat.zero_add _).symm
 | x :: l, m => by show f x + sumF f (l ++ m) = f x + sumF f l + sumF f m; rw [sumF_app f l m, Nat.add_assoc]
theorem sumF_cons {α : Type} (f : α → Nat) (x : α) (l : List α) : sumF f (x :: l) = f x + sumF f l := rfl
theorem sumF_nil {α : Type} (f : α → Nat) : sumF f ([] : List α) = 0 := rfl
open Classical in
theorem perm_sum {α : Type} {L L' : List α} (h : ∀ f : α → Nat, sumF f L = sumF f L') : L.Perm L' := by
 have key : ∀ (a : α) (l : List α), l.count a = sumF (fun x => if x = a then 1 else 0) l := by
  intro a l
  induction l with
  | nil => rfl
  | cons x l ih =>
   rw [List.count_cons, ih, sumF_cons, Nat.add_comm]
   by_cases hx : x = a <;> simp [hx]
 rw [List.perm_iff_count]
 intro a
 rw [key, key, h]
section
variable {w0 w : World} {ex : Nat → Prop} {L L' : List (Nat × BA)}
theorem Mem.permS (M : Mem w0 ex w L) (h : ∀ f : (Nat × BA) → Nat, sumF f L = sumF f L') : Mem w0 ex w L' :=
 have hp := perm_sum h
 ⟨M.os, M.tape, M.output, M.size, M.block, fun p h => M.blk p (hp.mem_iff.2 h), (hp.map _).nodup_iff.1 M.nd⟩
theorem Mem.subS (R : List (Nat × BA)) (M : Mem w0 ex w L) (h : ∀ f : (Nat × BA) → Nat, sumF f L = sumF f L' + sumF f R) : Mem w0 ex w L' :=
 (M.permS (L' := L' ++ R) fun f => by rw [sumF_app, h f]).sub (Zsl _ _)
end
def fb (c : UInt8) : Bool := !(c == 110)
theorem fb_n {c : UInt8} (h : ((c.toNat : Nat) : Int) = 110) : fb c = false := by
 have : c = 110 := UInt8.toNat_inj.1 (by show c.toNat = 110; omega)
 subst this
 rfl
theorem fb_r {c : UInt8} (h : ¬ ((c.toNat : Nat) : Int) = 110) : fb c = true := by
 have : c ≠ 110 := fun e => h (by rw [e]; rfl)
 unfold fb
 simp [this]
def andQ : Option (List Int) → Option (List Int) → Option (List Int)
 | some a, some b => some (a ++ b)
 | _, _ => none
theorem andQ_zero (o : Option (List Int)) : andQ (some []) o = o := by cases o <;> rfl
theorem andQ_none (o : Option (List Int)) : andQ o none = none := by cases o <;> rfl
theorem andQ_put (xs ys : List Int) (o : Option (List Int)) : andQ (some xs) (andQ (some ys) o) = andQ (some (xs ++ ys)) o := by
 cases o <;> simp [andQ]
theorem valsQ_cons (f : Bool) (fs : List Bool) (p : List UInt8) (ws : List (List UInt8)) : valsQ (f :: fs) (p :: ws) = andQ (wordQ f p) (valsQ fs ws) := by
 rw [valsQ]
 cases wordQ f p <;> cases valsQ fs ws <;> rfl
theorem drop_at {α : Type} {l : List α} {i : Nat} {x : α} (h : l[i]? = some x) : l.drop i = x :: l.drop (i + 1) := by
 rw [List.drop_eq_getElem_cons (List.getElem?_eq_some_iff.1 h).1, (List.getElem?_eq_some_iff.1 h).2]
theorem valsQ_step {fm : List UInt8} {ws : List (List UInt8)} {i : Nat} {f : UInt8} {p : List UInt8} (h1 : fm[i]? = some f) (h2 : ws[i]? = some p) : valsQ ((fm.map fb).drop i) (ws.drop i) = andQ (wordQ (fb f) p) (valsQ ((fm.map fb).drop (i + 1)) (ws.drop (i + 1))) := by
 rw [drop_at (l := fm.map fb) (x := fb f) (by rw [List.getElem?_map, h1]; rfl), drop_at h2, valsQ_cons]
theorem wordQ_num {p : List UInt8} {n : Int} (hv : ∀ v, numP p = some v → n = v) (h : (!(numP p).isSome) = false) : wordQ false p = some [n] := by
 unfold wordQ
 rw [if_neg (by decide)]
 cases e : numP p with
 | none => rw [e] at h; cases h
 | some v => rw [hv v e]; rfl
theorem wordQ_nonum {p : List UInt8} (h : (!(numP p).isSome) = true) : wordQ false p = none := by
 unfold wordQ
 rw [if_neg (by decide)]
 cases e : numP p with
 | none => rfl
 | some v => rw [e] at h; cases h
theorem rangeQ_cut (p : List UInt8) : rangeQ p = if (Lib.cut p [46, 46]).2.2 = true then (match numP (Lib.cut p [46, 46]).1, numP (Lib.cut p [46, 46]).2.1 with
  | some a, some b => some [a, b]
  | _, _ => none) else none := by
 unfold rangeQ
 rw [cut_two]
 cases cut2 p with
 | none => rfl
 | some x => rfl
theorem wordQ_rg {p : List UInt8} {a b : Int} (h : (!(Lib.cut p [46, 46]).2.2 || (!(numP (Lib.cut p [46, 46]).1).isSome || !(numP (Lib.cut p [46, 46]).2.1).isSome)) = false) (h1 : ∀ v, numP (Lib.cut p [46, 46]).1 = some v → a = v) (h2 : ∀ v, numP (Lib.cut p [46, 46]).2.1 = some v → b = v) : wordQ true p = some [a, b] := by
 unfold wordQ
 rw [if_pos rfl, rangeQ_cut]
 simp only [Bool.or_eq_false_iff, Bool.not_eq_false'] at h
 obtain ⟨h3, h4, h5⟩ := h
 rw [if_pos h3]
 cases e1 : numP (Lib.cut p [46, 46]).1 with
 | none => rw [e1] at h4; cases h4
 | some x =>
  cases e2 : numP (Lib.cut p [46, 46]).2.1 with
  | none => rw [e2] at h5; cases h5
  | some y =>
   obtain rfl := h1 x e1
   obtain rfl := h2 y e2
   rfl
theorem wordQ_norg {p : List UInt8} (h : (!(Lib.cut p [46, 46]).2.2 || (!(numP (Lib.cut p [46, 46]).1).isSome || !(numP (Lib.cut p [46, 46]).2.1).isSome)) = true) : wordQ true p = none := by
 unfold wordQ
 rw [if_pos rfl, rangeQ_cut]
 split
 ·rename_i h1
  cases h2 : numP (Lib.cut p [46, 46]).1 with
  | none => rfl
  | some a =>
   cases h3 : numP (Lib.cut p [46, 46]).2.1 with
   | none => rfl
   | some b => rw [h1, h2, h3] at h; cases h
 ·rfl
theorem cut2_len (s : List UInt8) : (Lib.cut s [46, 46]).1.length ≤ s.length ∧ (Lib.cut s [46, 46]).2.1.length ≤ s.length := by
 rw [cut_two]
 cases h : cut2 s with
 | none => exact ⟨Nat.le_refl _, Nat.zero_le _⟩
 | some x =>
  have := cut2_spec (a := x.1) (z := x.2) h
  have h2 := congrArg List.length this
  simp only [List.length_append, List.length_cons] at h2
  exact ⟨by dsimp only; omega, by dsimp only; omega⟩
def mixV : List Bool → List (Int × Int) → List Int → List Int
 | true :: fs, r :: R, N => r.1 :: r.2 :: mixV fs R N
 | false :: fs, R, n :: N => n :: mixV fs R N
 | _, _, _ => []
def cntT : List Bool → Nat
 | [] => 0
 | true :: fs => cntT fs + 1
 | false :: fs => cntT fs
def cntF : List Bool → Nat
 | [] => 0
 | true :: fs => cntF fs
 | false :: fs => cntF fs + 1
theorem cntT_snoc (f : Bool) : ∀ fs, cntT (fs ++ [f]) = cntT fs + cntT [f]
 | [] => (Nat.zero_add _).symm
 | true :: fs => by show cntT (fs ++ [f]) + 1 = _; rw [cntT_snoc f fs]; show _ = cntT fs + 1 + _; omega
 | false :: fs => by show cntT (fs ++ [f]) = _; rw [cntT_snoc f fs]; rfl
theorem cntF_snoc (f : Bool) : ∀ fs, cntF (fs ++ [f]) = cntF fs + cntF [f]
 | [] => (Nat.zero_add _).symm
 | false :: fs => by show cntF (fs ++ [f]) + 1 = _; rw [cntF_snoc f fs]; show _ = cntF fs + 1 + _; omega
 | true :: fs => by show cntF (fs ++ [f]) = _; rw [cntF_snoc f fs]; rfl
theorem mix_true (a b : Int) : ∀ (fs : List Bool) (R : List (Int × Int)) (N : List Int), R.length = cntT fs → N.length = cntF fs → mixV (fs ++ [true]) (R ++ [(a, b)]) N = mixV fs R N ++ [a, b]
 | [], [], [], _, _ => rfl
 | [], _ :: _, _, h, _ => by cases h
 | [], [], _ :: _, _, h => by cases h
 | true :: fs, r :: R, N, h1, h2 => by
  show r.1 :: r.2 :: mixV (fs ++ [true]) (R ++ [(a, b)]) N = _
  rw [mix_true a b fs R N (by simpa [cntT] using h1) h2]; rfl
 | false :: fs, R, n :: N, h1, h2 => by
  show n :: mixV (fs ++ [true]) (R ++ [(a, b)]) N = _
  rw [mix_true a b fs R N h1 (by simpa [cntF] using h2)]; rfl
 | true :: fs, [], N, h, _ => by simp only [List.length_nil, cntT] at h; omega
 | false :: fs, R, [], _, h => by simp only [List.length_nil, cntF] at h; omega
theorem mix_false (a : Int) : ∀ (fs : List Bool) (R : List (Int × Int)) (N : List Int), R.length = cntT fs → N.length = cntF fs → mixV (fs ++ [false]) R (N ++ [a]) = mixV fs R N ++ [a]
 | [], [], [], _, _ => rfl
 | [], _ :: _, _, h, _ => by cases h
 | [], [], _ :: _, _, h => by cases h
 | true :: fs, r :: R, N, h1, h2 => by
  show r.1 :: r.2 :: mixV (fs ++ [false]) R (N ++ [a]) = _
  rw [mix_false a fs R N (by simpa [cntT] using h1) h2]; rfl
 | false :: fs, R, n :: N, h1, h2 => by
  show n :: mixV (fs ++ [false]) R (N ++ [a]) = _
  rw [mix_false a fs R N h1 (by simpa [cntF] using h2)]; rfl
 | true :: fs, [], N, h, _ => by simp only [List.length_nil, cntT] at h; omega
 | false :: fs, R, [], _, h => by simp only [List.length_nil, cntF] at h; omega
theorem take_fb {fm : List UInt8} {i : Nat} {f : UInt8} (h : fm[i]? = some f) : (fm.map fb).take (i + 1) = (fm.map fb).take i ++ [fb f] := take_sn (by rw [List.getElem?_map, h]; rfl)
structure MixQ (fm : List UInt8) (i : Nat) (xs : List Int) (R : List (Int × Int)) (N : List Int) : Prop where
 mix : xs = mixV ((fm.map fb).take i) R N
 ct : R.length = cntT ((fm.map fb).take i)
 cf : N.length = cntF ((fm.map fb).take i)
theorem MixQ.start (fm : List UInt8) : MixQ fm 0 [] [] [] := ⟨rfl, rfl, rfl⟩
theorem MixQ.num {fm : List UInt8} {i : Nat} {xs : List Int} {R : List (Int × Int)} {N : List Int} {f : UInt8} (q : MixQ fm i xs R N) (h : fm[i]? = some f) (hf : fb f = false) (n : Int) : MixQ fm (i + 1) (xs ++ [n]) R (N ++ [n]) := by
 refine ⟨?_, ?_, ?_⟩
 · rw [take_fb h, hf, mix_false n _ _ _ q.ct q.cf, ← q.mix]
 · rw [take_fb h, hf, cntT_snoc, q.ct]; rfl
 · rw [take_fb h, hf, cntF_snoc, List.length_append, q.cf]; rfl
theorem MixQ.rg {fm : List UInt8} {i : Nat} {xs : List Int} {R : List (Int × Int)} {N : List Int} {f : UInt8} (q : MixQ fm i xs R N) (h : fm[i]? = some f) (hf : fb f = true) (a b : Int) : MixQ fm (i + 1) (xs ++ [a, b]) (R ++ [(a, b)]) N := by
 refine ⟨?_, ?_, ?_⟩
 · rw [take_fb h, hf, mix_true a b _ _ _ q.ct q.cf, ← q.mix]
 · rw [take_fb h, hf, cntT_snoc, List.length_append, q.ct]; rfl
 · rw [take_fb h, hf, cntF_snoc, q.cf]; rfl
def fmL : List UInt8 := [110, 110, 110, 110, 110]
def fmA : List UInt8 := [114, 114]
def fmF : List UInt8 := [114, 114, 114, 114, 110, 114, 114, 110]
theorem kv_prog {k : Kv} {fm s w0 : List UInt8} (hk : k.form = fm.map fb) (h : (spl 44 s)[0]? = some w0) (hw : w0 = k.word) : k.rd s = valsQ (fm.map fb) ((spl 44 s).drop 1) := by
 unfold Kv.rd
 cases e : spl 44 s with
 | nil => rw [e] at h; cases h
 | cons v ws =>
  rw [e] at h
  obtain rfl : v = w0 := Option.some.inj h
  dsimp only
  rw [if_pos hw, hk]
  rfl
theorem valsQ_short : ∀ {fm : List Bool} {ws : List (List UInt8)}, ws.length ≠ fm.length → valsQ fm ws = none
 | [], [], h => absurd rfl h
 | [], _ :: _, _ => rfl
 | true :: _, [], _ => rfl
 | false :: _, [], _ => rfl
 | f :: fs, p :: ws, h => by
  rw [valsQ_cons, valsQ_short (fm := fs) (ws := ws) (fun e => h (by simp [e])), andQ_none]
theorem kv_no {k : Kv} {fm s w0 : List UInt8} (hk : k.form = fm.map fb) (h : (spl 44 s)[0]? = some w0) (hb : ¬ (w0 = k.word ∧ (spl 44 s).length = 1 + fm.length)) : k.rd s = none := by
 unfold Kv.rd
 cases e : spl 44 s with
 | nil => rfl
 | cons v ws =>
  rw [e] at h hb
  obtain rfl : v = w0 := Option.some.inj h
  dsimp only
  split
  ·rename_i hc
   refine valsQ_short fun e2 => hb ⟨hc, ?_⟩
   rw [hk, List.length_map] at e2
   rw [List.length_cons, e2, Nat.add_comm]
  ·rfl
theorem condV_ok {a w : List UInt8} {x y : Int} (h : (!decide (a = w) || !decide (x = y)) = false) : a = w ∧ x = y := by simpa using h
theorem condV_bad {a w : List UInt8} {x y : Int} (h : (!decide (a = w) || !decide (x = y)) = true) : ¬ (a = w ∧ x = y) := by
 rintro ⟨rfl, rfl⟩
 simp at h
theorem spl_len (c : UInt8) : ∀ s : List UInt8, (spl c s).length ≤ s.length + 1
 | [] => Nat.le_refl _
 | b :: r => by
  have := spl_len c r
  unfold spl
  split
  ·rw [List.length_cons, List.length_cons]; omega
  ·split
   ·simp only [List.length_cons, List.length_nil]; omega
   ·rename_i h; rw [h] at this; rw [List.length_cons] at this ⊢; rw [List.length_cons]; omega
theorem spl_mem_len {c : UInt8} : ∀ {s p : List UInt8}, p ∈ spl c s → p.length ≤ s.length
 | [], p, h => by rcases List.mem_singleton.1 h with rfl; exact Nat.le_refl _
 | b :: r, p, h => by
  have ih := fun {p} => spl_mem_len (c := c) (s := r) (p := p)
  unfold spl at h
  split at h
  ·rcases List.mem_cons.1 h with rfl | h
   ·exact Nat.zero_le _
   ·have := ih h; rw [List.length_cons]; omega
  ·split at h
   ·rcases List.mem_singleton.1 h with rfl; simp only [List.length_cons, List.length_nil]; omega
   ·rename_i x l e
    rcases List.mem_cons.1 h with rfl | h
    ·have := ih (p := x) (by rw [e]; exact Zz2); rw [List.length_cons, List.length_cons]; omega
    ·have := ih (p := p) (by rw [e]; exact Zz1 h); rw [List.length_cons]; omega
theorem st_map (l : List (List UInt8)) : st l = l.map fun p => sv p := by
 unfold st
 induction l with
 | nil => rfl
 | cons a l ih => rw [List.flatMap_cons, ih]; rfl
theorem st_part (l : List (List UInt8)) (k h : Nat) : ((st l).drop (k * 1)).take ((h - k) * 1) = st ((l.drop k).take (h - k)) := by
 rw [Nat.mul_one, Nat.mul_one, st_map, st_map, List.map_take, List.map_drop]
theorem st_length2 (l : List (List UInt8)) : (st l).length = l.length := by rw [st_map, List.length_map]
theorem row_sp {w : World} {ex : Nat → Prop} {g : Nat} (l : List (List UInt8)) : Sp w ex [(g, .cells (st l))] (some ⟨g, 0, none⟩) l.length 1 g 0 (st l) := Sp.cells (by rw [st_length2]; omega)
def SplP (l : List (List UInt8)) (w : World) (e : Ending) (w' : World) : Prop := ∃ (A : Option Addr) (c b o : Nat) (I : List (Nat × BA)), e = .returned (.slice A l.length c) ∧ l.length ≤ c ∧ (∀ (w : World) (ex : Nat → Prop), Sp w ex I A l.length 1 b o (st l)) ∧ Mem w noEx w' I
theorem Split2_any (s : List UInt8) (c : UInt8) (w : World) (hs : s.length ≤ 1000000) (hT : StrW w) : Calls Tryz.prog 46 #[sv s, sv [c]] w (SplP (spl c s) w) := by
 refine (Split_any s c w hs hT).mono fun e w' h => ?_
 obtain ⟨g, rfl, M⟩ := h
 exact ⟨_, _, g, 0, _, rfl, Nat.le_refl _, fun _ _ => row_sp _, M⟩
theorem Sl.ne {w0 w : World} {ex : Nat → Prop} {e size n c g : Nat} {A : Option Addr} {xs : List Value} {I : List (Nat × BA)} {q : BA} (h : Sl e size (.slice A n c) n xs I) (M : Mem w0 ex w ((g, q) :: I)) : ∀ b o, A = some ⟨b, o, none⟩ → b ≠ g := by
 intro b o hA hb
 rcases h with ⟨h1, -, -, -⟩ | ⟨g2, cap, h1, rfl⟩
 ·injection h1 with h1; rw [hA] at h1; cases h1
 ·injection h1 with h1
  rw [hA] at h1
  injection h1 with h1
  injection h1 with h1
  have := M.nd
  subst hb
  subst h1
  simp at this
def KeptB (bb : Nat) (b : Bx) (L : List (Nat × BA)) : Prop := ∃ A c B d Ia Ib, L = (bb, .cells (boxL b A c B d)) :: (Ia ++ Ib) ∧ Sl 77 4 (.slice A b.lows.length c) b.lows.length (sc b.lows) Ia ∧ Sl 77 4 (.slice B b.highs.length d) b.highs.length (sc b.highs) Ib
def putQ (k : Nat) (o : Option (List Int)) (b : Bx) : Bx := match o with
 | none => b
 | some x => putV k x b
def LineB (o : Option (List Int)) (w : World) (exq : Nat → Prop) (bb k : Nat) (b : Bx) (e : Ending) (w' : World) : Prop := e = .returned (.bool o.isSome) ∧ ∃ L, Mem w exq w' L ∧ KeptB bb (putQ k o b) L
theorem LineB.none {o : Option (List Int)} {w w' : World} {exq : Nat → Prop} {bb k : Nat} {b : Bx} {L : List (Nat × BA)} (h : o = .none) (M : Mem w exq w' L) (hk : KeptB bb b L) : LineB o w exq bb k b (.returned (.bool false)) w' := by
 subst h
 exact ⟨rfl, L, M, hk⟩
theorem len5 {N : List Int} (h : N.length = 5) : ∃ a b c d e, N = [a, b, c, d, e] := by
 match N, h with
 | [a, b, c, d, e], _ => exact ⟨a, b, c, d, e, rfl⟩
theorem len2 {N : List Int} (h : N.length = 2) : ∃ a b, N = [a, b] := by
 match N, h with
 | [a, b], _ => exact ⟨a, b, rfl⟩
theorem len2r {R : List (Int × Int)} (h : R.length = 2) : ∃ a b c d, R = [(a, b), (c, d)] := by
 match R, h with
 | [(a, b), (c, d)], _ => exact ⟨a, b, c, d, rfl⟩
theorem len6r {R : List (Int × Int)} (h : R.length = 6) : ∃ a b c d e f g i j k l m, R = [(a, b), (c, d), (e, f), (g, i), (j, k), (l, m)] := by
 match R, h with
 | [(a, b), (c, d), (e, f), (g, i), (j, k), (l, m)], _ => exact ⟨a, b, c, d, e, f, g, i, j, k, l, m, rfl⟩
theorem vtq0 (bb : Nat) (b : Bx) (A : Option Addr) (c : Nat) (B : Option Addr) (d : Nat) (X : Option Addr) (cx : Nat) (Y : Option Addr) (cy : Nat) (RR : List (Int × Int)) (NN : List Int) (n0 n1 n2 n3 n4 : Int) (hR : RR = []) (hN : NN = [n0, n1, n2, n3, n4]) (w : World) (hq : Bk w bb #[Zi b.first, Zi b.step, Zi b.span, Zi b.press, Zi b.note, .slice A b.lows.length c, .slice B b.highs.length d, Zi b.t0, Zi b.t1, Zi b.r0, Zi b.r1, Zi b.u0, Zi b.u1, Zi b.d0, Zi b.d1, Zi b.a0, Zi b.a1, Zi b.b0, Zi b.b1, Zi b.le, Zi b.me]) (hx : Rd w w.heap.size 2 X RR.length (rc RR)) (hxe : ∀ b o, X = some ⟨b, o, none⟩ → b ≠ bb) (hy : Rd w w.heap.size 1 Y NN.length (ic NN)) (hye : ∀ b o, Y = some ⟨b, o, none⟩ → b ≠ bb) :
  Calls Tryz.prog 112 #[Zj bb, .agg #[.slice X RR.length cx, .slice Y NN.length cy]] w fun e w' => e = .returned (.tuple #[]) ∧ Mem w (fun b => b = bb) w' [(bb, .cells [Zi n0, Zi n1, Zi n2, Zi n3, Zi n4, .slice A b.lows.length c, .slice B b.highs.length d, Zi b.t0, Zi b.t1, Zi b.r0, Zi b.r1, Zi b.u0, Zi b.u1, Zi b.d0, Zi b.d1, Zi b.a0, Zi b.a1, Zi b.b0, Zi b.b1, Zi b.le, Zi b.me])] := by
 subst hR hN
 exact vtake0_any bb b A c B d X cx Y cy n0 n1 n2 n3 n4 w hq hx hxe hy hye
theorem vtq3 (bb : Nat) (b : Bx) (A : Option Addr) (c : Nat) (B : Option Addr) (d : Nat) (X : Option Addr) (cx : Nat) (Y : Option Addr) (cy : Nat) (RR : List (Int × Int)) (NN : List Int) (u0 u1 d0 d1 a0 a1 b0 b1 t0 t1 r0 r1 le me : Int) (hR : RR = [(u0, u1), (d0, d1), (a0, a1), (b0, b1), (t0, t1), (r0, r1)]) (hN : NN = [le, me]) (w : World) (hq : Bk w bb #[Zi b.first, Zi b.step, Zi b.span, Zi b.press, Zi b.note, .slice A b.lows.length c, .slice B b.highs.length d, Zi b.t0, Zi b.t1, Zi b.r0, Zi b.r1, Zi b.u0, Zi b.u1, Zi b.d0, Zi b.d1, Zi b.a0, Zi b.a1, Zi b.b0, Zi b.b1, Zi b.le, Zi b.me]) (hx : Rd w w.heap.size 2 X RR.length (rc RR)) (hxe : ∀ b o, X = some ⟨b, o, none⟩ → b ≠ bb) (hy : Rd w w.heap.size 1 Y NN.length (ic NN)) (hye : ∀ b o, Y = some ⟨b, o, none⟩ → b ≠ bb) :
  Calls Tryz.prog 115 #[Zj bb, .agg #[.slice X RR.length cx, .slice Y NN.length cy]] w fun e w' => e = .returned (.tuple #[]) ∧ Mem w (fun b => b = bb) w' [(bb, .cells [Zi b.first, Zi b.step, Zi b.span, Zi b.press, Zi b.note, .slice A b.lows.length c, .slice B b.highs.length d, Zi t0, Zi t1, Zi r0, Zi r1, Zi u0, Zi u1, Zi d0, Zi d1, Zi a0, Zi a1, Zi b0, Zi b1, Zi le, Zi me])] := by
 subst hR hN
 exact vtake3_any bb b A c B d X cx Y cy u0 u1 d0 d1 a0 a1 b0 b1 t0 t1 r0 r1 le me w hq hx hxe hy hye
theorem vtq1 (bb gs : Nat) (b : Bx) (A : Option Addr) (c : Nat) (B : Option Addr) (d : Nat) (Ia Ib : List (Nat × BA)) (exq : Nat → Prop) (X : Option Addr) (cx : Nat) (Y : Option Addr) (cy : Nat) (ny bX oX : Nat) (RR : List (Int × Int)) (s0 s1 s2 s3 : Int) (hR : RR = [(s0, s1), (s2, s3)]) (w : World) (hj : b.lows.length ≤ 800000) (hsA : Sl 77 4 (.slice A b.lows.length c) b.lows.length (sc b.lows) Ia) (SX : Sp w exq [] X RR.length 2 bX oX (rc RR)) (M0 : Mem w exq w ((bb, .cells (bxM b (.slice A b.lows.length c) (.slice B b.highs.length d))) :: (Ib ++ Ia))) (qs : Bk w gs #[.func (.func 111) #[] #[]]) (hgs : ¬ exq gs) :
  Calls Tryz.prog 113 #[Zj bb, .agg #[.slice X RR.length cx, .slice Y ny cy], Zj gs] w fun e w' => ∃ g cap, e = .returned (.tuple #[]) ∧ Mem w exq w' ((bb, .cells [Zi b.first, Zi b.step, Zi b.span, Zi b.press, Zi b.note, .slice (some ⟨g, 0, none⟩) (b.lows.length + 1) cap, .slice B b.highs.length d, Zi b.t0, Zi b.t1, Zi b.r0, Zi b.r1, Zi b.u0, Zi b.u1, Zi b.d0, Zi b.d1, Zi b.a0, Zi b.a1, Zi b.b0, Zi b.b1, Zi b.le, Zi b.me]) :: (g, .row 77 4 (b.lows.length + 1) (sc b.lows ++ sc [⟨s0, s1, s2, s3⟩]) cap) :: Ib) := by
 subst hR
 exact vtake1_any bb gs b A c B d Ia Ib exq X cx Y cy ny bX oX s0 s1 s2 s3 w hj hsA SX M0 qs hgs
theorem vtq2 (bb gs : Nat) (b : Bx) (A : Option Addr) (c : Nat) (B : Option Addr) (d : Nat) (Ia Ib : List (Nat × BA)) (exq : Nat → Prop) (X : Option Addr) (cx : Nat) (Y : Option Addr) (cy : Nat) (ny bX oX : Nat) (RR : List (Int × Int)) (s0 s1 s2 s3 : Int) (hR : RR = [(s0, s1), (s2, s3)]) (w : World) (hj : b.highs.length ≤ 800000) (hsB : Sl 77 4 (.slice B b.highs.length d) b.highs.length (sc b.highs) Ib) (SX : Sp w exq [] X RR.length 2 bX oX (rc RR)) (M0 : Mem w exq w ((bb, .cells (bxM b (.slice A b.lows.length c) (.slice B b.highs.length d))) :: (Ia ++ Ib))) (qs : Bk w gs #[.func (.func 111) #[] #[]]) (hgs : ¬ exq gs) :
  Calls Tryz.prog 114 #[Zj bb, .agg #[.slice X RR.length cx, .slice Y ny cy], Zj gs] w fun e w' => ∃ g cap, e = .returned (.tuple #[]) ∧ Mem w exq w' ((bb, .cells [Zi b.first, Zi b.step, Zi b.span, Zi b.press, Zi b.note, .slice A b.lows.length c, .slice (some ⟨g, 0, none⟩) (b.highs.length + 1) cap, Zi b.t0, Zi b.t1, Zi b.r0, Zi b.r1, Zi b.u0, Zi b.u1, Zi b.d0, Zi b.d1, Zi b.a0, Zi b.a1, Zi b.b0, Zi b.b1, Zi b.le, Zi b.me]) :: (g, .row 77 4 (b.highs.length + 1) (sc b.highs ++ sc [⟨s0, s1, s2, s3⟩]) cap) :: Ia) := by
 subst hR
 exact vtake2_any bb gs b A c B d Ia Ib exq X cx Y cy ny bX oX s0 s1 s2 s3 w hj hsB SX M0 qs hgs
end Go.Proofs.YtaikhendogcflaaGreatDoor

