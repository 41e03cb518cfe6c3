/-
  Walks of functions, and plain laws (texts put together). No condition.
-/
import Derived.Shelf.Strings.OnBuilder
import Derived.Shelf.LaysM
import Derived.Shelf.Strconv.Itoa3
import Derived.Shelf.LaysC
import Derived.Shelf.Strconv.AtoiAll
import Derived.Shelf.Strings.Cut
import Derived.Shelf.Strings.Prefix
import Derived.Shelf.Strings.Split
import Derived.Test.YtaikhendogcflaaGreatDoorProg
import Derived.Lib.Split
import Derived.Lib.Atoi
import Derived.Lib.AtoiAll
import Derived.Lib.ItoaMem
import Derived.Lib.Join
import Derived.WalkKit
import Derived.LaidEql
import Derived.Stop.Asserts
import Derived.RowKitTokens
import Derived.LaidHandle
import Derived.LaidMore
import Derived.Stop.Joined
import Derived.Stop.LaidErr
import Derived.Lib.LaidTab
import Derived.Shelf.Vars
import Derived.HandedShaped
import Derived.Lay
import Derived.Test.YtaikhendogcflaaGreatDoorRows
import Derived.Deep.Slices
import Derived.Test.YtaikhendogcflaaGreatDoorMSheetRead1
import Derived.Test.YtaikhendogcflaaGreatDoorMSheetRead2
import Derived.Test.YtaikhendogcflaaGreatDoorMSheetRead3
import Derived.Test.YtaikhendogcflaaGreatDoorMSheetRead4
set_option maxRecDepth 100000
set_option maxHeartbeats 1000000
set_option linter.unusedSimpArgs false
set_option linter.unusedVariables false
namespace Go.Proofs.YtaikhendogcflaaGreatDoor
open Go.RowKit
section
open Go.Shelf
def Tryz.lays156_ren : Go.Shelf.Ren := ⟨fun | 156 => 68 | 165 => 138 | 166 => 139 | 169 => 140 | 240 => 195 | 241 => 196 | 276 => 232 | 277 => 233 | n => n, fun | 31 => 37 | 9 => 9 | 3 => 3 | 4 => 4 | 0 => 0 | 20 => 20 | 72 => 214 | 76 => 216 | 70 => 212 | 37 => 93 | 75 => 133 | 127 => 280 | 164 => 220 | 5 => 5 | 80 => 218 | n => n, fun | n => n⟩
theorem Tryz.lays156 : Go.Proofs.Lays.n156 Tryz.prog Tryz.lays156_ren := {
 mixed := by kernel_rfl
 f156 := Tryz.func68.trans (congrArg some (by kernel_rfl))
 f165 := Tryz.func138.trans (congrArg some (by kernel_rfl))
 f166 := Tryz.func139.trans (congrArg some (by kernel_rfl))
 f169 := Tryz.func140.trans (congrArg some (by kernel_rfl))
 f240 := Tryz.func195.trans (congrArg some (by kernel_rfl))
 f241 := Tryz.func196.trans (congrArg some (by kernel_rfl))
 f276 := Tryz.func232.trans (congrArg some (by kernel_rfl))
 f277 := Tryz.func233.trans (congrArg some (by kernel_rfl))
 t0 := Tryz.underlying0
 a0 := Tryz.isAgg0
 z0 := Tryz.sizeOf0
 v0 := Tryz.zeroValue0
 t3 := Tryz.underlying3
 a3 := Tryz.isAgg3
 z3 := Tryz.sizeOf3
 v3 := Tryz.zeroValue3
 t4 := Tryz.underlying4
 a4 := Tryz.isAgg4
 z4 := Tryz.sizeOf4
 v4 := Tryz.zeroValue4
 t9 := Tryz.underlying9
 a9 := Tryz.isAgg9
 z9 := Tryz.sizeOf9
 v9 := Tryz.zeroValue9
 t20 := Tryz.underlying20
 a20 := Tryz.isAgg20
 z20 := Tryz.sizeOf20
 v20 := Tryz.zeroValue20
 t31 := Tryz.underlying37
 a31 := Tryz.isAgg37
 z31 := Tryz.sizeOf37
 v31 := Tryz.zeroValue37
 t37 := Tryz.underlying93
 a37 := Tryz.isAgg93
 z37 := Tryz.sizeOf93
 v37 := Tryz.zeroValue93
 t70 := Tryz.underlying212
 a70 := Tryz.isAgg212
 z70 := Tryz.sizeOf212
 v70 := Tryz.zeroValue212
 t72 := Tryz.underlying214
 a72 := Tryz.isAgg214
 z72 := Tryz.sizeOf214
 v72 := Tryz.zeroValue214
 t75 := Tryz.underlying133
 a75 := Tryz.isAgg133
 z75 := Tryz.sizeOf133
 v75 := Tryz.zeroValue133
 t76 := Tryz.underlying216
 a76 := Tryz.isAgg216
 z76 := Tryz.sizeOf216
 v76 := Tryz.zeroValue216
 t127 := Tryz.underlying280
 a127 := Tryz.isAgg280
 z127 := Tryz.sizeOf280
 v127 := Tryz.zeroValue280
 t164 := Tryz.underlying220
 a164 := Tryz.isAgg220
 z164 := Tryz.sizeOf220
 v164 := Tryz.zeroValue220 }
theorem Tryz.Builder_Extra_156 : Builder.Extra Tryz.prog Tryz.lays156_ren := {
 sizeBuilder := by kernel_rfl
 liesBuilder := by kernel_rfl
 t5 := Tryz.underlying5
 a5 := Tryz.isAgg5
 z5 := Tryz.sizeOf5
 v5 := Tryz.zeroValue5
 infoByte := by kernel_rfl
 cellsByte := by kernel_rfl
 sizeByte := by kernel_rfl
 neB5 := by decide }
def Tryz.laysM171_ren : Go.Shelf.Ren := ⟨fun | 171 => 43 | 243 => 109 | 246 => 175 | 283 => 211 | 284 => 212 | 285 => 213 | 286 => 214 | 129 => 238 | 317 => 237 | 318 => 239 | 319 => 240 | 320 => 226 | 337 => 254 | 338 => 255 | n => n, fun | 3 => 3 | 9 => 9 | 2 => 2 | 4 => 4 | 171 => 308 | 0 => 0 | 53 => 84 | 37 => 93 | 5 => 5 | 173 => 311 | 212 => 334 | 51 => 335 | 20 => 20 | 213 => 336 | 46 => 87 | 232 => 360 | 233 => 361 | n => n, fun | 17 => 1 | 18 => 7 | 19 => 8 | n => n⟩
theorem Tryz.laysM171 : Go.Proofs.LaysM.n171 Tryz.prog Tryz.laysM171_ren := {
 mixed := by kernel_rfl
 f129 := Tryz.func238.trans (congrArg some (by kernel_rfl))
 f171 := Tryz.func43.trans (congrArg some (by kernel_rfl))
 f243 := Tryz.func109.trans (congrArg some (by kernel_rfl))
 f246 := Tryz.func175.trans (congrArg some (by kernel_rfl))
 f283 := Tryz.func211.trans (congrArg some (by kernel_rfl))
 f284 := Tryz.func212.trans (congrArg some (by kernel_rfl))
 f285 := Tryz.func213.trans (congrArg some (by kernel_rfl))
 f286 := Tryz.func214.trans (congrArg some (by kernel_rfl))
 f317 := Tryz.func237.trans (congrArg some (by kernel_rfl))
 f318 := Tryz.func239.trans (congrArg some (by kernel_rfl))
 f319 := Tryz.func240.trans (congrArg some (by kernel_rfl))
 f320 := Tryz.func226.trans (congrArg some (by kernel_rfl))
 f337 := Tryz.func254.trans (congrArg some (by kernel_rfl))
 f338 := Tryz.func255.trans (congrArg some (by kernel_rfl))
 t0 := Tryz.underlying0
 a0 := Tryz.isAgg0
 z0 := Tryz.sizeOf0
 v0 := Tryz.zeroValue0
 t2 := Tryz.underlying2
 a2 := Tryz.isAgg2
 z2 := Tryz.sizeOf2
 v2 := Tryz.zeroValue2
 t3 := Tryz.underlying3
 a3 := Tryz.isAgg3
 z3 := Tryz.sizeOf3
 v3 := Tryz.zeroValue3
 t4 := Tryz.underlying4
 a4 := Tryz.isAgg4
 z4 := Tryz.sizeOf4
 v4 := Tryz.zeroValue4
 t5 := Tryz.underlying5
 a5 := Tryz.isAgg5
 z5 := Tryz.sizeOf5
 v5 := Tryz.zeroValue5
 t9 := Tryz.underlying9
 a9 := Tryz.isAgg9
 z9 := Tryz.sizeOf9
 v9 := Tryz.zeroValue9
 t20 := Tryz.underlying20
 a20 := Tryz.isAgg20
 z20 := Tryz.sizeOf20
 v20 := Tryz.zeroValue20
 t37 := Tryz.underlying93
 a37 := Tryz.isAgg93
 z37 := Tryz.sizeOf93
 v37 := Tryz.zeroValue93
 t46 := Tryz.underlying87
 a46 := Tryz.isAgg87
 z46 := Tryz.sizeOf87
 v46 := Tryz.zeroValue87
 t51 := Tryz.underlying335
 a51 := Tryz.isAgg335
 z51 := Tryz.sizeOf335
 v51 := Tryz.zeroValue335
 t53 := Tryz.underlying84
 a53 := Tryz.isAgg84
 z53 := Tryz.sizeOf84
 v53 := Tryz.zeroValue84
 t171 := Tryz.underlying308
 a171 := Tryz.isAgg308
 z171 := Tryz.sizeOf308
 v171 := Tryz.zeroValue308
 t173 := Tryz.underlying311
 a173 := Tryz.isAgg311
 z173 := Tryz.sizeOf311
 v173 := Tryz.zeroValue311
 t212 := Tryz.underlying334
 a212 := Tryz.isAgg334
 z212 := Tryz.sizeOf334
 v212 := Tryz.zeroValue334
 t213 := Tryz.underlying336
 a213 := Tryz.isAgg336
 z213 := Tryz.sizeOf336
 t232 := Tryz.underlying360
 a232 := Tryz.isAgg360
 z232 := Tryz.sizeOf360
 v232 := Tryz.zeroValue360
 t233 := Tryz.underlying361
 a233 := Tryz.isAgg361
 z233 := Tryz.sizeOf361
 v233 := Tryz.zeroValue361
 g17 := by kernel_rfl
 g18 := by kernel_rfl
 g19 := by kernel_rfl
 i0 := by kernel_rfl
 i2 := by kernel_rfl
 i3 := by kernel_rfl
 i4 := by kernel_rfl
 i5 := by kernel_rfl
 i9 := by kernel_rfl
 i20 := by kernel_rfl
 i37 := by kernel_rfl
 i46 := by kernel_rfl
 i51 := by kernel_rfl
 i53 := by kernel_rfl
 i171 := by kernel_rfl
 i173 := by kernel_rfl
 i212 := by kernel_rfl
 i232 := by kernel_rfl
 i233 := by kernel_rfl
 m17 := by kernel_rfl
 m18 := by kernel_rfl
 m19 := by kernel_rfl }
def Tryz.laysC172_ren : Go.Shelf.Ren := ⟨fun | 172 => 179 | 244 => 219 | 245 => 220 | 247 => 246 | 279 => 247 | 280 => 248 | 281 => 249 | 282 => 250 | 287 => 261 | 316 => 262 | 171 => 43 | 205 => 263 | 321 => 265 | 322 => 266 | 243 => 109 | 246 => 175 | 283 => 211 | 284 => 212 | 285 => 213 | 286 => 214 | 129 => 238 | 317 => 237 | 318 => 239 | 319 => 240 | 320 => 226 | 337 => 254 | 338 => 255 | n => n, fun | 9 => 9 | 3 => 3 | 75 => 133 | 76 => 216 | 4 => 4 | 5 => 5 | 167 => 337 | 37 => 93 | 0 => 0 | 85 => 338 | 2 => 2 | 168 => 340 | 53 => 84 | 175 => 354 | 46 => 87 | 210 => 358 | 127 => 280 | 145 => 366 | 143 => 364 | 21 => 21 | 171 => 308 | 173 => 311 | 212 => 334 | 51 => 335 | 20 => 20 | 213 => 336 | 232 => 360 | 233 => 361 | 80 => 218 | n => n, fun | 15 => 5 | 16 => 6 | 17 => 1 | 18 => 7 | 19 => 8 | n => n⟩
theorem Tryz.laysC172 : Go.Proofs.LaysC.n172 Tryz.prog Tryz.laysC172_ren := {
 mixed := by kernel_rfl
 f129 := Tryz.func238.trans (congrArg some (by kernel_rfl))
 f171 := Tryz.func43.trans (congrArg some (by kernel_rfl))
 f172 := Tryz.func179.trans (congrArg some (by kernel_rfl))
 f205 := Tryz.func263.trans (congrArg some (by kernel_rfl))
 f243 := Tryz.func109.trans (congrArg some (by kernel_rfl))
 f244 := Tryz.func219.trans (congrArg some (by kernel_rfl))
 f245 := Tryz.func220.trans (congrArg some (by kernel_rfl))
 f246 := Tryz.func175.trans (congrArg some (by kernel_rfl))
 f247 := Tryz.func246.trans (congrArg some (by kernel_rfl))
 f279 := Tryz.func247.trans (congrArg some (by kernel_rfl))
 f280 := Tryz.func248.trans (congrArg some (by kernel_rfl))
 f281 := Tryz.func249.trans (congrArg some (by kernel_rfl))
 f282 := Tryz.func250.trans (congrArg some (by kernel_rfl))
 f283 := Tryz.func211.trans (congrArg some (by kernel_rfl))
 f284 := Tryz.func212.trans (congrArg some (by kernel_rfl))
 f285 := Tryz.func213.trans (congrArg some (by kernel_rfl))
 f286 := Tryz.func214.trans (congrArg some (by kernel_rfl))
 f287 := Tryz.func261.trans (congrArg some (by kernel_rfl))
 f316 := Tryz.func262.trans (congrArg some (by kernel_rfl))
 f317 := Tryz.func237.trans (congrArg some (by kernel_rfl))
 f318 := Tryz.func239.trans (congrArg some (by kernel_rfl))
 f319 := Tryz.func240.trans (congrArg some (by kernel_rfl))
 f320 := Tryz.func226.trans (congrArg some (by kernel_rfl))
 f321 := Tryz.func265.trans (congrArg some (by kernel_rfl))
 f322 := Tryz.func266.trans (congrArg some (by kernel_rfl))
 f337 := Tryz.func254.trans (congrArg some (by kernel_rfl))
 f338 := Tryz.func255.trans (congrArg some (by kernel_rfl))
 t0 := Tryz.underlying0
 a0 := Tryz.isAgg0
 z0 := Tryz.sizeOf0
 v0 := Tryz.zeroValue0
 t2 := Tryz.underlying2
 a2 := Tryz.isAgg2
 z2 := Tryz.sizeOf2
 v2 := Tryz.zeroValue2
 t3 := Tryz.underlying3
 a3 := Tryz.isAgg3
 z3 := Tryz.sizeOf3
 v3 := Tryz.zeroValue3
 t4 := Tryz.underlying4
 a4 := Tryz.isAgg4
 z4 := Tryz.sizeOf4
 v4 := Tryz.zeroValue4
 t5 := Tryz.underlying5
 a5 := Tryz.isAgg5
 z5 := Tryz.sizeOf5
 v5 := Tryz.zeroValue5
 t9 := Tryz.underlying9
 a9 := Tryz.isAgg9
 z9 := Tryz.sizeOf9
 v9 := Tryz.zeroValue9
 t20 := Tryz.underlying20
 a20 := Tryz.isAgg20
 z20 := Tryz.sizeOf20
 v20 := Tryz.zeroValue20
 t21 := Tryz.underlying21
 a21 := Tryz.isAgg21
 z21 := Tryz.sizeOf21
 v21 := Tryz.zeroValue21
 t37 := Tryz.underlying93
 a37 := Tryz.isAgg93
 z37 := Tryz.sizeOf93
 v37 := Tryz.zeroValue93
 t46 := Tryz.underlying87
 a46 := Tryz.isAgg87
 z46 := Tryz.sizeOf87
 v46 := Tryz.zeroValue87
 t51 := Tryz.underlying335
 a51 := Tryz.isAgg335
 z51 := Tryz.sizeOf335
 v51 := Tryz.zeroValue335
 t53 := Tryz.underlying84
 a53 := Tryz.isAgg84
 z53 := Tryz.sizeOf84
 v53 := Tryz.zeroValue84
 t75 := Tryz.underlying133
 a75 := Tryz.isAgg133
 z75 := Tryz.sizeOf133
 v75 := Tryz.zeroValue133
 t76 := Tryz.underlying216
 a76 := Tryz.isAgg216
 z76 := Tryz.sizeOf216
 v76 := Tryz.zeroValue216
 t85 := Tryz.underlying338
 a85 := Tryz.isAgg338
 z85 := Tryz.sizeOf338
 v85 := Tryz.zeroValue338
 t127 := Tryz.underlying280
 a127 := Tryz.isAgg280
 z127 := Tryz.sizeOf280
 v127 := Tryz.zeroValue280
 t143 := Tryz.underlying364
 a143 := Tryz.isAgg364
 z143 := Tryz.sizeOf364
 v143 := Tryz.zeroValue364
 t145 := Tryz.underlying366
 a145 := Tryz.isAgg366
 z145 := Tryz.sizeOf366
 v145 := Tryz.zeroValue366
 t167 := Tryz.underlying337
 a167 := Tryz.isAgg337
 z167 := Tryz.sizeOf337
 v167 := Tryz.zeroValue337
 t168 := Tryz.underlying340
 a168 := Tryz.isAgg340
 z168 := Tryz.sizeOf340
 v168 := Tryz.zeroValue340
 t171 := Tryz.underlying308
 a171 := Tryz.isAgg308
 z171 := Tryz.sizeOf308
 v171 := Tryz.zeroValue308
 t173 := Tryz.underlying311
 a173 := Tryz.isAgg311
 z173 := Tryz.sizeOf311
 v173 := Tryz.zeroValue311
 t175 := Tryz.underlying354
 a175 := Tryz.isAgg354
 z175 := Tryz.sizeOf354
 v175 := Tryz.zeroValue354
 t210 := Tryz.underlying358
 a210 := Tryz.isAgg358
 z210 := Tryz.sizeOf358
 v210 := Tryz.zeroValue358
 t212 := Tryz.underlying334
 a212 := Tryz.isAgg334
 z212 := Tryz.sizeOf334
 v212 := Tryz.zeroValue334
 t213 := Tryz.underlying336
 a213 := Tryz.isAgg336
 z213 := Tryz.sizeOf336
 t232 := Tryz.underlying360
 a232 := Tryz.isAgg360
 z232 := Tryz.sizeOf360
 v232 := Tryz.zeroValue360
 t233 := Tryz.underlying361
 a233 := Tryz.isAgg361
 z233 := Tryz.sizeOf361
 v233 := Tryz.zeroValue361
 g15 := by kernel_rfl
 g16 := by kernel_rfl
 g17 := by kernel_rfl
 g18 := by kernel_rfl
 g19 := by kernel_rfl
 t80 := Tryz.underlying218
 a80 := Tryz.isAgg218
 z80 := Tryz.sizeOf218
 v80 := Tryz.zeroValue218
 i0 := by kernel_rfl
 i2 := by kernel_rfl
 i3 := by kernel_rfl
 i4 := by kernel_rfl
 i5 := by kernel_rfl
 i9 := by kernel_rfl
 i20 := by kernel_rfl
 i21 := by kernel_rfl
 i37 := by kernel_rfl
 i46 := by kernel_rfl
 i51 := by kernel_rfl
 i53 := by kernel_rfl
 i75 := by kernel_rfl
 i76 := by kernel_rfl
 i80 := by kernel_rfl
 i85 := by kernel_rfl
 i127 := by kernel_rfl
 i143 := by kernel_rfl
 i145 := by kernel_rfl
 i167 := by kernel_rfl
 i168 := by kernel_rfl
 i171 := by kernel_rfl
 i173 := by kernel_rfl
 i175 := by kernel_rfl
 i210 := by kernel_rfl
 i212 := by kernel_rfl
 i232 := by kernel_rfl
 i233 := by kernel_rfl
 m15 := by kernel_rfl
 m16 := by kernel_rfl
 m17 := by kernel_rfl
 m18 := by kernel_rfl
 m19 := by kernel_rfl
 c0 := by kernel_rfl
 c2 := by kernel_rfl
 c3 := by kernel_rfl
 c4 := by kernel_rfl
 c5 := by kernel_rfl
 c9 := by kernel_rfl
 c20 := by kernel_rfl
 c21 := by kernel_rfl
 c37 := by kernel_rfl
 c46 := by kernel_rfl
 c51 := by kernel_rfl
 c53 := by kernel_rfl
 c75 := by kernel_rfl
 c76 := by kernel_rfl
 c80 := by kernel_rfl
 c85 := by kernel_rfl
 c127 := by kernel_rfl
 c143 := by kernel_rfl
 c145 := by kernel_rfl
 c167 := by kernel_rfl
 c168 := by kernel_rfl
 c171 := by kernel_rfl
 c173 := by kernel_rfl
 c175 := by kernel_rfl
 c210 := by kernel_rfl
 c212 := by kernel_rfl
 c213 := by kernel_rfl
 c232 := by kernel_rfl
 c233 := by kernel_rfl }
def Tryz.lays145_ren : Go.Shelf.Ren := ⟨fun | 145 => 118 | 220 => 181 | 219 => 218 | 217 => 242 | 225 => 243 | 224 => 244 | 267 => 245 | 266 => 259 | 314 => 260 | n => n, fun | 9 => 9 | 4 => 4 | 59 => 178 | 3 => 3 | 5 => 5 | 46 => 87 | 146 => 352 | 51 => 335 | n => n, fun | 1 => 2 | n => n⟩
theorem Tryz.lays145 : Go.Proofs.Lays.n145 Tryz.prog Tryz.lays145_ren := {
 mixed := by kernel_rfl
 f145 := Tryz.func118.trans (congrArg some (by kernel_rfl))
 f217 := Tryz.func242.trans (congrArg some (by kernel_rfl))
 f219 := Tryz.func218.trans (congrArg some (by kernel_rfl))
 f220 := Tryz.func181.trans (congrArg some (by kernel_rfl))
 f224 := Tryz.func244.trans (congrArg some (by kernel_rfl))
 f225 := Tryz.func243.trans (congrArg some (by kernel_rfl))
 f266 := Tryz.func259.trans (congrArg some (by kernel_rfl))
 f267 := Tryz.func245.trans (congrArg some (by kernel_rfl))
 f314 := Tryz.func260.trans (congrArg some (by kernel_rfl))
 t3 := Tryz.underlying3
 a3 := Tryz.isAgg3
 z3 := Tryz.sizeOf3
 v3 := Tryz.zeroValue3
 t4 := Tryz.underlying4
 a4 := Tryz.isAgg4
 z4 := Tryz.sizeOf4
 v4 := Tryz.zeroValue4
 t5 := Tryz.underlying5
 a5 := Tryz.isAgg5
 z5 := Tryz.sizeOf5
 v5 := Tryz.zeroValue5
 t9 := Tryz.underlying9
 a9 := Tryz.isAgg9
 z9 := Tryz.sizeOf9
 v9 := Tryz.zeroValue9
 t46 := Tryz.underlying87
 a46 := Tryz.isAgg87
 z46 := Tryz.sizeOf87
 v46 := Tryz.zeroValue87
 t51 := Tryz.underlying335
 a51 := Tryz.isAgg335
 z51 := Tryz.sizeOf335
 v51 := Tryz.zeroValue335
 t59 := Tryz.underlying178
 a59 := Tryz.isAgg178
 z59 := Tryz.sizeOf178
 v59 := Tryz.zeroValue178
 t146 := Tryz.underlying352
 a146 := Tryz.isAgg352
 z146 := Tryz.sizeOf352
 v146 := Tryz.zeroValue352
 g1 := by kernel_rfl }
def Tryz.lays146_ren : Go.Shelf.Ren := ⟨fun | 146 => 46 | 221 => 110 | 268 => 176 | 138 => 177 | 143 => 178 | 195 => 215 | 197 => 216 | 218 => 217 | 219 => 218 | 260 => 241 | 217 => 242 | 225 => 243 | 224 => 244 | 267 => 245 | 266 => 259 | 314 => 260 | n => n, fun | 9 => 9 | 31 => 37 | 3 => 3 | 4 => 4 | 0 => 0 | 105 => 314 | 21 => 21 | 5 => 5 | 46 => 87 | 119 => 348 | 139 => 351 | 138 => 350 | 146 => 352 | 51 => 335 | n => n, fun | 1 => 2 | 3 => 3 | 4 => 4 | n => n⟩
theorem Tryz.lays146 : Go.Proofs.Lays.n146 Tryz.prog Tryz.lays146_ren := {
 mixed := by kernel_rfl
 f138 := Tryz.func177.trans (congrArg some (by kernel_rfl))
 f143 := Tryz.func178.trans (congrArg some (by kernel_rfl))
 f146 := Tryz.func46.trans (congrArg some (by kernel_rfl))
 f195 := Tryz.func215.trans (congrArg some (by kernel_rfl))
 f197 := Tryz.func216.trans (congrArg some (by kernel_rfl))
 f217 := Tryz.func242.trans (congrArg some (by kernel_rfl))
 f218 := Tryz.func217.trans (congrArg some (by kernel_rfl))
 f219 := Tryz.func218.trans (congrArg some (by kernel_rfl))
 f221 := Tryz.func110.trans (congrArg some (by kernel_rfl))
 f224 := Tryz.func244.trans (congrArg some (by kernel_rfl))
 f225 := Tryz.func243.trans (congrArg some (by kernel_rfl))
 f260 := Tryz.func241.trans (congrArg some (by kernel_rfl))
 f266 := Tryz.func259.trans (congrArg some (by kernel_rfl))
 f267 := Tryz.func245.trans (congrArg some (by kernel_rfl))
 f268 := Tryz.func176.trans (congrArg some (by kernel_rfl))
 f314 := Tryz.func260.trans (congrArg some (by kernel_rfl))
 t0 := Tryz.underlying0
 a0 := Tryz.isAgg0
 z0 := Tryz.sizeOf0
 v0 := Tryz.zeroValue0
 t3 := Tryz.underlying3
 a3 := Tryz.isAgg3
 z3 := Tryz.sizeOf3
 v3 := Tryz.zeroValue3
 t4 := Tryz.underlying4
 a4 := Tryz.isAgg4
 z4 := Tryz.sizeOf4
 v4 := Tryz.zeroValue4
 t5 := Tryz.underlying5
 a5 := Tryz.isAgg5
 z5 := Tryz.sizeOf5
 v5 := Tryz.zeroValue5
 t9 := Tryz.underlying9
 a9 := Tryz.isAgg9
 z9 := Tryz.sizeOf9
 v9 := Tryz.zeroValue9
 t21 := Tryz.underlying21
 a21 := Tryz.isAgg21
 z21 := Tryz.sizeOf21
 v21 := Tryz.zeroValue21
 t31 := Tryz.underlying37
 a31 := Tryz.isAgg37
 z31 := Tryz.sizeOf37
 v31 := Tryz.zeroValue37
 t46 := Tryz.underlying87
 a46 := Tryz.isAgg87
 z46 := Tryz.sizeOf87
 v46 := Tryz.zeroValue87
 t51 := Tryz.underlying335
 a51 := Tryz.isAgg335
 z51 := Tryz.sizeOf335
 v51 := Tryz.zeroValue335
 t105 := Tryz.underlying314
 a105 := Tryz.isAgg314
 z105 := Tryz.sizeOf314
 v105 := Tryz.zeroValue314
 t119 := Tryz.underlying348
 a119 := Tryz.isAgg348
 z119 := Tryz.sizeOf348
 t138 := Tryz.underlying350
 a138 := Tryz.isAgg350
 z138 := Tryz.sizeOf350
 v138 := Tryz.zeroValue350
 t139 := Tryz.underlying351
 a139 := Tryz.isAgg351
 z139 := Tryz.sizeOf351
 v139 := Tryz.zeroValue351
 t146 := Tryz.underlying352
 a146 := Tryz.isAgg352
 z146 := Tryz.sizeOf352
 v146 := Tryz.zeroValue352
 g1 := by kernel_rfl
 g3 := by kernel_rfl
 g4 := by kernel_rfl }
end
section
open Go Go.Lib
def spl (c : UInt8) : List UInt8 → List (List UInt8)
 | [] => [[]]
 | b :: r => if b = c then [] :: spl c r else match spl c r with
  | [] => [[b]]
  | x :: l => (b :: x) :: l
theorem spl_ne (c : UInt8) : ∀ s, spl c s ≠ []
 | [] => by simp [spl]
 | b :: r => by
  unfold spl
  split
  ·simp
  ·split <;> simp
theorem index_hit (c : UInt8) (r : List UInt8) : index (c :: r) [c] = 0 := by
 unfold index
 rw [if_pos (by simp)]
theorem index_skip {b c : UInt8} (h : b ≠ c) (r : List UInt8) : index (b :: r) [c] = if index r [c] = -1 then -1 else index r [c] + 1 := by
 rw [index, if_neg (by simp [List.isPrefixOf]; exact fun e => h e.symm)]
 by_cases h1 : index r [c] = -1
 · rw [if_pos (beq_iff_eq.2 h1), if_pos h1]
 · rw [if_neg (fun e => h1 (beq_iff_eq.1 e)), if_neg h1]
theorem split_spl (c : UInt8) : ∀ s : List UInt8, split s [c] = spl c s
 | [] => by
  unfold split
  rw [count_miss (by rfl)]
  rfl
 | b :: r => by
  have ih := split_spl c r
  by_cases hb : b = c
  ·subst hb
   have h0 := index_hit b r
   unfold split
   rw [count_hit (by simp) (show index (b :: r) [b] = ((0 : Nat) : Int) from h0), Nat.add_comm 1, splitK, if_neg (by rw [h0]; decide), h0]
   unfold spl
   rw [if_pos rfl, ← ih]
   rfl
  ·have h1 := index_skip hb r
   by_cases hm : index r [c] = -1
   ·rw [if_pos hm] at h1
    have e : split r [c] = [r] := by unfold split; rw [count_miss hm]; rfl
    unfold split
    rw [count_miss h1]
    unfold spl
    rw [if_neg hb, ← ih, e]
    rfl
   ·rw [if_neg hm] at h1
    obtain ⟨i, hi⟩ : ∃ i : Nat, index r [c] = i := ⟨(index r [c]).toNat, by have := index_ge r [c]; omega⟩
    have h2 : index (b :: r) [c] = ((i + 1 : Nat) : Int) := by rw [h1, hi]; rfl
    have c1 := count_hit (sub := [c]) (by simp) hi
    have c2 := count_hit (sub := [c]) (by simp) h2
    have e1 : split r [c] = r.take i :: splitK [c] 0 (count (r.drop (i + 1)) [c]) (r.drop (i + 1)) := by
     unfold split
     rw [c1, Nat.add_comm 1, splitK, if_neg (by rw [hi]; intro e; have := beq_iff_eq.1 e; omega), hi]
     rfl
    have e2 : split (b :: r) [c] = (b :: r.take i) :: splitK [c] 0 (count (r.drop (i + 1)) [c]) (r.drop (i + 1)) := by
     unfold split
     rw [c2, Nat.add_comm 1, splitK, if_neg (by rw [h2]; intro e; have := beq_iff_eq.1 e; omega), h2]
     rfl
    unfold spl
    rw [if_neg hb, ← ih, e1, e2]
theorem cut_spl (c : UInt8) : ∀ s : List UInt8, (c ∉ s ∧ cut s [c] = (s, [], false) ∧ spl c s = [s]) ∨ ∃ a r, c ∉ a ∧ s = a ++ c :: r ∧ cut s [c] = (a, r, true) ∧ spl c s = a :: spl c r
 | [] => .inl ⟨by simp, by rfl, rfl⟩
 | b :: r => by
   by_cases hb : b = c
   · subst hb
     refine .inr ⟨[], r, by simp, rfl, ?_, by rw [spl, if_pos rfl]⟩
     unfold cut
     rw [index_hit]
     rfl
   · have h1 := index_skip hb r
     rcases cut_spl c r with ⟨hn, hc, hs⟩ | ⟨a, q, hn, rfl, hc, hs⟩
     · have hm : index r [c] = -1 := by
         unfold cut at hc
         split at hc
         · exact absurd (congrArg (·.2.2) hc) (by simp)
         · have := index_ge r [c]; omega
       rw [if_pos hm] at h1
       refine .inl ⟨by simp [hn]; exact fun e => hb e.symm, ?_, ?_⟩
       · unfold cut
         rw [h1]
         rfl
       · rw [spl, if_neg hb, hs]
     · have hm : ¬ index (a ++ c :: q) [c] = -1 := by
         intro hm
         unfold cut at hc
         rw [if_neg (by omega)] at hc
         exact absurd (congrArg (·.2.2) hc) (by simp)
       rw [if_neg hm] at h1
       obtain ⟨i, hi⟩ : ∃ i : Nat, index (a ++ c :: q) [c] = i := ⟨(index (a ++ c :: q) [c]).toNat, by have := index_ge (a ++ c :: q) [c]; omega⟩
       refine .inr ⟨b :: a, q, by simp [hn]; exact fun e => hb e.symm, rfl, ?_, ?_⟩
       · unfold cut at hc ⊢
         rw [hi, if_pos (by omega)] at hc
         rw [h1, hi, if_pos (by omega)]
         have k1 := congrArg (·.1) hc
         have k2 := congrArg (·.2.1) hc
         dsimp only at k1 k2
         have t1 : ((i : Int) + 1).toNat = i + 1 := by omega
         have t2 : (i : Int).toNat = i := by omega
         rw [t2] at k1 k2
         rw [t1, Zy2, k1]
         have : i + 1 + [c].length = (i + [c].length) + 1 := by omega
         rw [this, Zy1, k2]
       · rw [spl, if_neg hb, hs]
end
section
open Go Go.Lib
def trim45 : List UInt8 → List UInt8
 | [] => []
 | b :: r => if b = 45 then r else b :: r
def numP (s : List UInt8) : Option Int := match atoiAll s with
 | .ok v => if (trim45 s).length ≤ 3 ∧ itoa v = s then some v else none
 | _ => none
def digR : Nat → List UInt8 → Option Nat
 | n, [] => some n
 | n, b :: r => if b.toNat < 48 ∨ 57 < b.toNat then none else digR (10 * n + (b.toNat - 48)) r
def magR (neg : Bool) (w : List UInt8) : Option Nat :=
 if w.length < 1 ∨ 3 < w.length ∨ (w.head? = some 48 ∧ (1 < w.length ∨ neg = true)) then none else digR 0 w
def numR (s : List UInt8) : Option Int := if s.head? = some 45 then (magR true (s.drop 1)).map fun n : Nat => -(n : Int) else (magR false s).map fun n : Nat => (n : Int)
def dd3 (u : Nat) : List UInt8 := if u < 10 then [UInt8.ofNat (48 + u)] else if u < 100 then [UInt8.ofNat (48 + u / 10), UInt8.ofNat (48 + u % 10)] else [UInt8.ofNat (48 + u / 100), UInt8.ofNat (48 + u / 10 % 10), UInt8.ofNat (48 + u % 10)]
theorem dd3_eq {u : Nat} (h : u < 1000) : decDigits u = dd3 u := by
 unfold dd3
 split
 ·rename_i h1; exact decDigits_one h1
 ·rename_i h1
  split
  ·rename_i h2; exact decDigits_two h1 h2
  ·rename_i h2
   rw [decDigits, dif_neg h1, decDigits_two (by omega) (by omega), Nat.div_div_eq_div_mul]
   rfl
def it3 (v : Int) : List UInt8 := if v < 0 then 45 :: dd3 v.natAbs else dd3 v.toNat
theorem it3_eq {v : Int} (h : -999 ≤ v ∧ v ≤ 999) : itoa v = it3 v := by
 unfold itoa it3
 split
 · rw [dd3_eq (by omega)]
 · rw [dd3_eq (by omega)]
theorem fin_pos : ∀ u : Fin 1000, atoiAll (dd3 u.val) = .ok (u.val : Int) ∧ (trim45 (dd3 u.val)).length ≤ 3 ∧ numR (dd3 u.val) = some (u.val : Int) := by decide +kernel
theorem fin_neg : ∀ u : Fin 1000, 0 < u.val → atoiAll (45 :: dd3 u.val) = .ok (-(u.val : Int)) ∧ (trim45 (45 :: dd3 u.val)).length ≤ 3 ∧ numR (45 :: dd3 u.val) = some (-(u.val : Int)) := by decide +kernel
theorem it3_all {v : Int} (h : -999 ≤ v ∧ v ≤ 999) : atoiAll (it3 v) = .ok v ∧ (trim45 (it3 v)).length ≤ 3 ∧ numR (it3 v) = some v := by
 unfold it3
 split
 ·have := fin_neg ⟨v.natAbs, by omega⟩ (by show 0 < v.natAbs; omega)
  dsimp only at this
  rwa [show -((v.natAbs : Nat) : Int) = v by omega] at this
 ·have := fin_pos ⟨v.toNat, by omega⟩
  dsimp only at this
  rwa [show ((v.toNat : Nat) : Int) = v by omega] at this
theorem dec_head (u : Nat) : (decDigits u).head? ≠ some 45 := by
 induction u using Nat.strongRecOn with
 | _ u ih =>
  rw [decDigits]
  split
  ·rename_i h
   have : ∀ x : Fin 10, ([UInt8.ofNat (48 + x.val)] : List UInt8).head? ≠ some 45 := by decide +kernel
   exact this ⟨u, h⟩
  ·rename_i h
   have h1 := ih (u / 10) (by omega)
   have h2 : decDigits (u / 10) ≠ [] := by
    intro e
    have := decDigits_length (u / 10)
    rw [e] at this
    have := nDigits_pos (u / 10)
    simp at *
    omega
   cases hd : decDigits (u / 10) with
   | nil => exact absurd hd h2
   | cons a r => rw [hd] at h1; exact h1
theorem trim_dec (u : Nat) : trim45 (decDigits u) = decDigits u := by
 have h := dec_head u
 cases hd : decDigits u with
 | nil => rfl
 | cons a r =>
  rw [hd] at h
  show (if a = 45 then r else a :: r) = a :: r
  rw [if_neg (fun e => h (by rw [e]; rfl))]
theorem numP_iff {s : List UInt8} {v : Int} : numP s = some v ↔ (-999 ≤ v ∧ v ≤ 999) ∧ s = it3 v := by
 constructor
 ·intro h
  unfold numP at h
  split at h
  ·rename_i v' ha
   split at h
   ·rename_i hc
    cases h
    obtain ⟨h1, h2⟩ := hc
    have hb : -999 ≤ v ∧ v ≤ 999 := by
     rw [← h2] at h1
     unfold itoa at h1
     split at h1
     ·have h3 : trim45 (45 :: decDigits v.natAbs) = decDigits v.natAbs := by simp only [trim45, if_true]
      rw [h3, decDigits_length] at h1
      have h4 := lt_pow_nDigits v.natAbs
      have h5 : 10 ^ nDigits v.natAbs ≤ 10 ^ 3 := Nat.pow_le_pow_right (by decide) h1
      omega
     ·rw [trim_dec, decDigits_length] at h1
      have h4 := lt_pow_nDigits v.toNat
      have h5 : 10 ^ nDigits v.toNat ≤ 10 ^ 3 := Nat.pow_le_pow_right (by decide) h1
      omega
    exact ⟨hb, by rw [← it3_eq hb, h2]⟩
   ·cases h
  ·cases h
 ·rintro ⟨hb, rfl⟩
  obtain ⟨h1, h2, -⟩ := it3_all hb
  unfold numP
  rw [h1]
  dsimp only
  rw [if_pos ⟨h2, it3_eq hb⟩]
theorem dig_of {b : UInt8} (h : ¬ (b.toNat < 48 ∨ 57 < b.toNat)) : ∃ d : Fin 10, b = UInt8.ofNat (48 + d.val) :=
 ⟨⟨b.toNat - 48, by omega⟩, by
  apply UInt8.toNat_inj.1
  dsimp only
  rw [UInt8.toNat_ofNat']
  have := b.toNat_lt
  omega⟩
theorem fin1 : ∀ a : Fin 10, ∀ n, digR 0 [UInt8.ofNat (48 + a.val)] = some n → n < 1000 ∧ dd3 n = [UInt8.ofNat (48 + a.val)] := by
 have h : ∀ a : Fin 10, digR 0 [UInt8.ofNat (48 + a.val)] = some a.val ∧ a.val < 1000 ∧ dd3 a.val = [UInt8.ofNat (48 + a.val)] := by decide +kernel
 intro a n hn
 rw [(h a).1] at hn; cases hn
 exact (h a).2
theorem fin2 : ∀ a b : Fin 10, a.val ≠ 0 → ∀ n, digR 0 [UInt8.ofNat (48 + a.val), UInt8.ofNat (48 + b.val)] = some n → n < 1000 ∧ dd3 n = [UInt8.ofNat (48 + a.val), UInt8.ofNat (48 + b.val)] := by
 have h : ∀ a b : Fin 10, a.val ≠ 0 → digR 0 [UInt8.ofNat (48 + a.val), UInt8.ofNat (48 + b.val)] = some (10 * a.val + b.val) ∧ 10 * a.val + b.val < 1000 ∧ dd3 (10 * a.val + b.val) = [UInt8.ofNat (48 + a.val), UInt8.ofNat (48 + b.val)] := by decide +kernel
 intro a b ha n hn
 rw [(h a b ha).1] at hn; cases hn
 exact (h a b ha).2
theorem fin3 : ∀ a b c : Fin 10, a.val ≠ 0 → ∀ n, digR 0 [UInt8.ofNat (48 + a.val), UInt8.ofNat (48 + b.val), UInt8.ofNat (48 + c.val)] = some n → n < 1000 ∧ dd3 n = [UInt8.ofNat (48 + a.val), UInt8.ofNat (48 + b.val), UInt8.ofNat (48 + c.val)] := by
 have h : ∀ a b c : Fin 10, a.val ≠ 0 → digR 0 [UInt8.ofNat (48 + a.val), UInt8.ofNat (48 + b.val), UInt8.ofNat (48 + c.val)] = some (100 * a.val + 10 * b.val + c.val) ∧ 100 * a.val + 10 * b.val + c.val < 1000 ∧ dd3 (100 * a.val + 10 * b.val + c.val) = [UInt8.ofNat (48 + a.val), UInt8.ofNat (48 + b.val), UInt8.ofNat (48 + c.val)] := by decide +kernel
 intro a b c ha n hn
 rw [(h a b c ha).1] at hn; cases hn
 exact (h a b c ha).2
theorem magR_some {neg : Bool} {w : List UInt8} {n : Nat} (h : magR neg w = some n) : n < 1000 ∧ dd3 n = w ∧ (neg = true → 0 < n) := by
 unfold magR at h
 split at h
 ·cases h
 ·rename_i hc
  have z : ∀ {a : Fin 10}, UInt8.ofNat (48 + a.val) ≠ 48 → a.val ≠ 0 := fun h e => h (by rw [e]; rfl)
  match w, hc, h with
  | [], hc, h => exact absurd (Or.inl (by simp)) hc
  | [a], hc, h =>
   by_cases d1 : a.toNat < 48 ∨ 57 < a.toNat
   ·unfold digR at h; rw [if_pos d1] at h; cases h
   ·obtain ⟨x, rfl⟩ := dig_of d1
    obtain ⟨h1, h2⟩ := fin1 x n h
    refine ⟨h1, h2, fun hn => ?_⟩
    refine Nat.pos_of_ne_zero fun e => hc (.inr (.inr ⟨?_, .inr hn⟩))
    rw [← h2, e]; rfl
  | [a, b], hc, h =>
   have ha : a ≠ 48 := fun e => hc (.inr (.inr ⟨by rw [e]; rfl, .inl (by simp)⟩))
   by_cases d1 : a.toNat < 48 ∨ 57 < a.toNat
   ·unfold digR at h; rw [if_pos d1] at h; cases h
   ·by_cases d2 : b.toNat < 48 ∨ 57 < b.toNat
    ·unfold digR at h; rw [if_neg d1] at h; unfold digR at h; rw [if_pos d2] at h; cases h
    ·obtain ⟨x, rfl⟩ := dig_of d1
     obtain ⟨y, rfl⟩ := dig_of d2
     obtain ⟨h1, h2⟩ := fin2 x y (z ha) n h
     refine ⟨h1, h2, fun _ => Nat.pos_of_ne_zero fun e => ?_⟩
     rw [e] at h2
     exact absurd (show (1 : Nat) = 2 from congrArg List.length h2) (by decide)
  | [a, b, c], hc, h =>
   have ha : a ≠ 48 := fun e => hc (.inr (.inr ⟨by rw [e]; rfl, .inl (by simp)⟩))
   by_cases d1 : a.toNat < 48 ∨ 57 < a.toNat
   ·unfold digR at h; rw [if_pos d1] at h; cases h
   ·by_cases d2 : b.toNat < 48 ∨ 57 < b.toNat
    ·unfold digR at h; rw [if_neg d1] at h; unfold digR at h; rw [if_pos d2] at h; cases h
    ·by_cases d3 : c.toNat < 48 ∨ 57 < c.toNat
     ·unfold digR at h; rw [if_neg d1] at h; unfold digR at h; rw [if_neg d2] at h; unfold digR at h; rw [if_pos d3] at h; cases h
     ·obtain ⟨x, rfl⟩ := dig_of d1
      obtain ⟨y, rfl⟩ := dig_of d2
      obtain ⟨u, rfl⟩ := dig_of d3
      obtain ⟨h1, h2⟩ := fin3 x y u (z ha) n h
      refine ⟨h1, h2, fun _ => Nat.pos_of_ne_zero fun e => ?_⟩
      rw [e] at h2
      exact absurd (show (1 : Nat) = 3 from congrArg List.length h2) (by decide)
  | a :: b :: c :: d :: r, hc, h => exact absurd (Or.inr (Or.inl (by simp))) hc
end
structure StrW (w : World) : Prop where
 pow : Lib.TabIs Tryz.prog w "internal/strconv.uint64pow10" .u64 Lib.pow10Tab
 ml : ∃ m, w.cell? ⟨2, 0, none⟩ = some (.int .i64 m)
 syn : ∃ ev, w.cell? ⟨5, 0, none⟩ = some ev ∧ (ev = .nilIface ∨ ∃ te pe, ev = .iface te pe)
 rng : ∃ ev, w.cell? ⟨6, 0, none⟩ = some ev ∧ (ev = .nilIface ∨ ∃ te pe, ev = .iface te pe)
 lt : 8 < w.heap.size
theorem powNamed : Tryz.prog.globalNamed "internal/strconv.uint64pow10" = some 1 := by kernel_rfl
theorem StrW.mem {w wc : World} {ex : Nat → Prop} {L : List (Nat × BA)} (h : StrW w) (M : Mem w ex wc L) (hx : ∀ b, b ≤ 8 → ¬ ex b) : StrW wc := by
 have hl := h.lt
 have hb : ∀ b, b ≤ 8 → wc.heap[b]? = w.heap[b]? := fun b hb => M.block b (by omega) (hx b hb)
 have hc : ∀ b, b ≤ 8 → ∀ v, w.cell? ⟨b, 0, none⟩ = some v → wc.cell? ⟨b, 0, none⟩ = some v := fun b h9 v hv => (World.cell?_of_block (w := w) (a := ⟨b, 0, none⟩) (hb b h9)).trans hv
 refine ⟨?_, ?_, ?_, ?_, Nat.lt_of_lt_of_le hl M.size⟩
 ·have hp := h.pow
  unfold Lib.TabIs World.var? at hp ⊢
  rw [powNamed] at hp ⊢
  simp only [Option.bind_some] at hp ⊢
  rw [hb 1 (by decide)]
  exact hp
 ·obtain ⟨m, hm⟩ := h.ml
  exact ⟨m, hc _ (by decide) _ hm⟩
 ·obtain ⟨ev, h1, h2⟩ := h.syn
  exact ⟨ev, hc _ (by decide) _ h1, h2⟩
 ·obtain ⟨ev, h1, h2⟩ := h.rng
  exact ⟨ev, hc _ (by decide) _ h1, h2⟩
theorem StrW.mem0 {w wc : World} {L : List (Nat × BA)} (h : StrW w) (M : Mem w noEx wc L) : StrW wc := h.mem M (fun _ _ h => h)
def stE (p : (List UInt8)) : List Value := [sv p]
def st (l : List (List UInt8)) : List Value := l.flatMap stE
theorem st_get : ∀ (l : List (List UInt8)) (k : Nat) {x : (List UInt8)}, l[k]? = some x → ∀ (i : Nat) (v : Value), (stE x)[i]? = some v → (st l)[k * 1 + i]? = some v
 | [], k, x, h => by simp at h
 | y :: l, 0, x, h => by
  intro i v hv
  simp only [List.getElem?_cons_zero, Option.some.injEq] at h
  subst h
  show (stE y ++ st l)[0 * 1 + i]? = some v
  rw [Nat.zero_mul, Nat.zero_add, List.getElem?_append_left (List.getElem?_eq_some_iff.1 hv).1]
  exact hv
 | y :: l, k + 1, x, h => by
  intro i v hv
  have := st_get l k (by simpa using h) i v hv
  show (stE y ++ st l)[(k + 1) * 1 + i]? = some v
  have e : (stE y).length = 1 := rfl
  rw [List.getElem?_append_right (by rw [e]; omega), e, show (k + 1) * 1 + i - 1 = k * 1 + i by omega]
  exact this
theorem st_snoc (l : List (List UInt8)) (p : (List UInt8)) : st l ++ [sv p] = st (l ++ [p]) := by simp [st, stE]
section
variable {w w' : World} {ex : Nat → Prop} {I L : List (Nat × BA)} {n b o k : Nat} {A : Option Addr} {l : List (List UInt8)} {p : (List UInt8)}
theorem Sp.stA (S : Sp w ex I A n 1 b o (st l)) (M : Mem w ex w' L) (hI : I.Sublist L) (h : l[k]? = some p) (f : Nat) (v : Value) (hv : (stE p)[f]? = some v) : w'.cell? ⟨b, o + k * 1 + f, none⟩ = some v := by
 have := S.cell w' L M hI _ _ (st_get l k h f v hv)
 rwa [← Nat.add_assoc] at this
theorem Sp.stC0 (S : Sp w ex I A n 1 b o (st l)) (M : Mem w ex w' L) (hI : I.Sublist L) (h : l[k]? = some p) : w'.cell? ⟨b, o + k * 1 + 0, none⟩ = some (sv p) := S.stA M hI h 0 _ rfl
end
theorem Itoa_any (n : Int) (w : World) (hn : -9223372036854775808 ≤ n ∧ n ≤ 9223372036854775807) (hT : StrW w) : Calls Tryz.prog 43 #[.int .i64 n] w fun e w' => e = .returned (sv (Lib.itoa n)) ∧ Below w.heap.size w w' :=
 (Any.strconv_Itoa Tryz.laysM171 n hn.1 hn.2 w hT.pow).mono fun e w' h => by
  obtain ⟨rfl, k, os, rfl⟩ := h
  exact ⟨rfl, rfl, rfl, rfl, by simp, fun b hb => Sort.heap_grow_old _ _ hb⟩
def nilB : Value → Bool
 | .nilIface => true
 | _ => false
theorem Atoi_any (s : List UInt8) (w : World) (hs : s.length ≤ 1000000) (hT : StrW w) : Calls Tryz.prog 179 #[sv s] w fun e w' => ∃ n ev, e = .returned (.tuple #[.int .i64 n, ev]) ∧ (-9223372036854775808 ≤ n ∧ n ≤ 9223372036854775807) ∧ (ev = .nilIface ∨ ∃ te pe, ev = .iface te pe) ∧ (nilB ev = true → Lib.atoiAll s = .ok n) ∧ (nilB ev = false → ∀ v, Lib.atoiAll s ≠ .ok v) ∧ Below w.heap.size w w' := by
 have hz : (⟨s.toArray⟩ : ByteArray).size = s.length := sv_size s
 have hd : (⟨s.toArray⟩ : ByteArray).data.toList = s := sv_data s
 obtain ⟨ev1, c1, e1⟩ := hT.syn
 obtain ⟨ev2, c2, e2⟩ := hT.rng
 cases h : Lib.atoiAll s with
 | ok v =>
  refine (Any.strconv_Atoi_ok Tryz.laysC172 ⟨s.toArray⟩ (by omega) v (by rw [hd]; exact h) w).mono fun e w' h9 => ?_
  obtain ⟨rfl, h9⟩ := h9
  refine ⟨v, .nilIface, rfl, Lib.atoiAll_bounds h, .inl rfl, fun _ => rfl, fun h => (by cases h), ?_⟩
  rcases h9 with rfl | ⟨t, rfl⟩
  ·exact Below.refl _ _
  ·exact ⟨rfl, rfl, rfl, by rw [Lib.bytesWorld_size]; omega, fun k hk => Lib.bytesWorld_at_old w _ _ k hk⟩
 | range =>
  refine (Any.strconv_Atoi_range Tryz.laysC172 ⟨s.toArray⟩ (by omega) (by rw [hd]; exact h) ev2 w c2 e2).mono fun e w' h9 => ?_
  obtain ⟨N, rfl, -, -, hb⟩ := h9
  have hbd := Lib.atoiSat_bounds s
  rw [← hd] at hbd
  exact ⟨_, _, rfl, ⟨by omega, by omega⟩, .inr ⟨_, _, rfl⟩, fun h => (by cases h), fun _ v hv => (by cases hv), hb⟩
 | _ =>
  refine (Any.strconv_Atoi_syntax Tryz.laysC172 ⟨s.toArray⟩ (by omega) (by rw [hd]; exact h) ev1 w c1 e1).mono fun e w' h9 => ?_
  obtain ⟨N, rfl, -, -, hb⟩ := h9
  exact ⟨_, _, rfl, ⟨by omega, by omega⟩, .inr ⟨_, _, rfl⟩, fun h => (by cases h), fun _ v hv => (by cases hv), hb⟩
theorem Cut_any (s : List UInt8) (p : List UInt8) (w : World) (hs : s.length ≤ 1000000) (hT : StrW w) : Calls Tryz.prog 118 #[sv s, sv p] w fun e w' => e = .returned (.tuple #[sv (Lib.cut s p).1, sv (Lib.cut s p).2.1, .bool (Lib.cut s p).2.2]) ∧ Below w.heap.size w w' := by
 obtain ⟨m, hm⟩ := hT.ml
 refine (Any.strings_Cut Tryz.lays145 ⟨s.toArray⟩ ⟨p.toArray⟩ m w (by rw [sv_size]; omega) hm).mono fun e w' h => ?_
 obtain ⟨rfl, n, rfl⟩ := h
 exact ⟨by rw [sv_data, sv_data], rfl, rfl, rfl, Nat.le_refl _, fun _ _ => rfl⟩
def SplitPost (l : List (List UInt8)) (w : World) (e : Ending) (w' : World) : Prop := ∃ g, e = .returned (.slice (some ⟨g, 0, none⟩) l.length l.length) ∧ Mem w noEx w' [(g, .cells (st l))]
theorem Split_any (s : List UInt8) (c : UInt8) (w : World) (hs : s.length ≤ 1000000) (hT : StrW w) : Calls Tryz.prog 46 #[sv s, sv [c]] w (SplitPost (spl c s) w) := by
 obtain ⟨m, hm⟩ := hT.ml
 have h1 : 1 ≤ (⟨[c].toArray⟩ : ByteArray).size := by rw [sv_size]; exact Nat.le_refl _
 refine (Any.strings_Split Tryz.lays146 (by kernel_rfl) ⟨s.toArray⟩ ⟨[c].toArray⟩ m w (by rw [sv_size]; omega) hm h1).mono fun e w' h => ?_
 obtain ⟨rfl, rfl⟩ := h
 obtain ⟨bs, hbs⟩ : ∃ bs, bs = Lib.splitB ⟨[c].toArray⟩ 0 (Lib.countB ⟨s.toArray⟩ ⟨[c].toArray⟩) ⟨s.toArray⟩ := ⟨_, rfl⟩
 have hl : bs.length = Lib.countB ⟨s.toArray⟩ ⟨[c].toArray⟩ + 1 := by rw [hbs]; exact Lib.splitB_all _ h1 0 _ _ rfl
 have hd : bs.map (·.data.toList) = spl c s := by
   rw [← split_spl, hbs, Lib.splitB_data]
   rfl
 have hn : (spl c s).length = bs.length := by rw [← hd, List.length_map]
 have hc : bs.map Value.string = st (spl c s) := by
   rw [← hd]
   clear hd hn hl hbs
   induction bs with
   | nil => rfl
   | cons b r ih =>
     show Value.string b :: r.map Value.string = sv b.data.toList :: st (r.map (·.data.toList))
     rw [ih]
 rw [← hbs, hc, ← hl, ← hn]
 exact ⟨_, rfl, (Mem.init w noEx).new _ _⟩
theorem errNil (w : World) : (binOp .eql 133 .nilIface .nilIface).run Tryz.prog w = .ok (.bool true) w := by kernel_rfl
theorem errHeld (w : World) (te : TypeId) (pe : Value) : (binOp .eql 133 (.iface te pe) .nilIface).run Tryz.prog w = .ok (.bool false) w := by kernel_rfl
theorem rn_ifnil {op : Oper} {a : Act} {w : World} {t' : TypeId} {x : Operand} {ev : Value} (ho : op.op = .binOp .eql 133 x (.const .nilIface) t') (hx : a.eval x = ev) (hev : ev = .nilIface ∨ ∃ te pe, ev = .iface te pe) : Runs Tryz.prog op a (.bool (nilB ev)) w := by
 refine rn_bin (u' := .nilIface) ho hx rfl ?_
 rcases hev with rfl | ⟨te, pe, rfl⟩
 ·rw [eqGuard_nil_constR]
  exact errNil w
 ·exact errHeld w te pe
section
open Go Go.Lib
theorem spl_pos (c : UInt8) (s : List UInt8) : 0 < (spl c s).length := by
 have := spl_ne c s
 cases h : spl c s with
 | nil => exact absurd h this
 | cons x l => simp
end
section
open Go Go.Lib
structure Kd where
 word : List UInt8
 rg : Nat
 nm : Nat
section
variable (K0 K1 K2 K3 : Kd)
end
section
variable {K0 K1 K2 K3 : Kd}
end
end
section
open Go Go.Lib
def joinC (c : UInt8) : List (List UInt8) → List UInt8
 | [] => []
 | [x] => x
 | x :: y :: l => x ++ c :: joinC c (y :: l)
theorem joinC_cons {c : UInt8} {x : List UInt8} {l : List (List UInt8)} (h : l ≠ []) : joinC c (x :: l) = x ++ c :: joinC c l := by
 cases l with
 | nil => exact absurd rfl h
 | cons y l => rfl
theorem spl_join (c : UInt8) : ∀ s, joinC c (spl c s) = s
 | [] => rfl
 | b :: r => by
   have ih := spl_join c r
   unfold spl
   split
   · rename_i h
     rw [joinC_cons (spl_ne c r), ih, h]; rfl
   · cases h : spl c r with
     | nil => exact absurd h (spl_ne c r)
     | cons x l =>
       rw [h] at ih
       dsimp only
       cases l with
       | nil => exact congrArg (b :: ·) ih
       | cons y l => exact congrArg (b :: ·) ih
theorem spl_none {c : UInt8} {s : List UInt8} (h : c ∉ s) : spl c s = [s] := by
 rcases cut_spl c s with ⟨-, -, e⟩ | ⟨a, r, -, rfl, -, -⟩
 · exact e
 · exact absurd (by simp) h
theorem spl_app {c : UInt8} {a r : List UInt8} (h : c ∉ a) : spl c (a ++ c :: r) = a :: spl c r := by
 induction a with
 | nil => show spl c (c :: r) = _; rw [spl, if_pos rfl]
 | cons b a ih =>
  rw [List.mem_cons, not_or] at h
  show spl c (b :: (a ++ c :: r)) = _
  rw [spl, if_neg (fun e => h.1 e.symm), ih h.2]
theorem join_spl {c : UInt8} : ∀ {l : List (List UInt8)}, l ≠ [] → (∀ x ∈ l, c ∉ x) → spl c (joinC c l) = l
 | [], h, _ => absurd rfl h
 | [x], _, h => spl_none (h x Zz2)
 | x :: y :: l, _, h => by
  rw [joinC_cons (by simp), spl_app (h x Zz2), join_spl (by simp) fun z hz => h z (Zz1 hz)]
abbrev sm (v : Int) : Prop := -999 ≤ v ∧ v ≤ 999
end
section
open Go Go.Lib
def numS (s : List UInt8) : Option Int := match atoiAll s with
 | .ok v => if 0 ≤ v ∧ s.length ≤ 3 ∧ itoa v = s then some v else none
 | _ => none
abbrev nat3 (v : Int) : Prop := 0 ≤ v ∧ v ≤ 999
theorem numS_iff {s : List UInt8} {v : Int} : numS s = some v ↔ nat3 v ∧ s = it3 v := by
 constructor
 ·intro h
  unfold numS at h
  split at h
  ·rename_i v' ha
   split at h
   ·rename_i hc
    cases h
    obtain ⟨h0, h1, h2⟩ := hc
    have h3 : numP s = some v := by
     unfold numP
     rw [ha]
     dsimp only
     rw [if_pos]
     refine ⟨?_, h2⟩
     have hi : itoa v = decDigits v.toNat := by unfold itoa; rw [if_neg (by omega)]
     rw [← h2, hi, trim_dec, ← hi, h2]
     exact h1
    obtain ⟨h4, h5⟩ := numP_iff.1 h3
    exact ⟨⟨h0, h4.2⟩, h5⟩
   ·cases h
  ·cases h
 ·rintro ⟨⟨h0, h1⟩, rfl⟩
  obtain ⟨h2, h3, -⟩ := it3_all (v := v) ⟨by omega, h1⟩
  unfold numS
  rw [h2]
  dsimp only
  have hi : itoa v = decDigits v.toNat := by unfold itoa; rw [if_neg (by omega)]
  have he := it3_eq (v := v) ⟨by omega, h1⟩
  rw [if_pos]
  refine ⟨h0, ?_, he⟩
  rw [← he, hi, trim_dec, ← hi, he] at h3
  exact h3
theorem mag_iff {s : List UInt8} {n : Nat} : magR false s = some n ↔ n < 1000 ∧ s = it3 n := by
 constructor
 ·intro h
  obtain ⟨h1, h2, -⟩ := magR_some h
  refine ⟨h1, ?_⟩
  unfold it3
  rw [if_neg (by omega), Int.toNat_natCast, h2]
 ·rintro ⟨h1, rfl⟩
  have h2 := (it3_all (v := (n : Int)) ⟨by omega, by omega⟩).2.2
  unfold numR at h2
  split at h2
  ·obtain ⟨m, hm, e⟩ := Option.map_eq_some_iff.1 h2
   have := (magR_some hm).2.2 rfl
   omega
  ·obtain ⟨m, hm, e⟩ := Option.map_eq_some_iff.1 h2
   rw [hm]
   congr 1
   omega
theorem numS_mag (s : List UInt8) : numS s = (magR false s).map fun n : Nat => (n : Int) := by
 apply Option.ext
 intro v
 rw [numS_iff, Option.map_eq_some_iff]
 constructor
 ·rintro ⟨⟨h0, h1⟩, rfl⟩
  exact ⟨v.toNat, mag_iff.2 ⟨by omega, by rw [Int.toNat_of_nonneg h0]⟩, Int.toNat_of_nonneg h0⟩
 ·rintro ⟨n, hn, rfl⟩
  obtain ⟨h1, h2⟩ := mag_iff.1 hn
  exact ⟨⟨by omega, by omega⟩, h2⟩
theorem fin_bytes : ∀ u : Fin 1000, ∀ b ∈ dd3 u.val, 48 ≤ b.toNat ∧ b.toNat ≤ 57 := by decide +kernel
theorem numS_byte {s : List UInt8} {v : Int} (h : numS s = some v) : ∀ b ∈ s, 48 ≤ b.toNat ∧ b.toNat ≤ 57 := by
 obtain ⟨⟨h0, h1⟩, rfl⟩ := numS_iff.1 h
 unfold it3
 rw [if_neg (by omega)]
 exact fin_bytes ⟨v.toNat, by omega⟩
theorem numS_free {s : List UInt8} {c : UInt8} (hc : ¬ (48 ≤ c.toNat ∧ c.toNat ≤ 57)) (h : c ∈ s) : numS s = none := by
 cases e : numS s with
 | none => rfl
 | some v => exact absurd (numS_byte e c h) hc
def pairS (c : UInt8) (w : List UInt8) : Option (Int × Int) := if (cut w [c]).2.2 = true then (match numS (cut w [c]).1, numS (cut w [c]).2.1 with
 | some a, some b => some (a, b)
 | _, _ => none) else none
def pairR (c : UInt8) (w : List UInt8) : Option (Int × Int) := match spl c w with
 | [x, y] => (match numS x, numS y with
  | some a, some b => some (a, b)
  | _, _ => none)
 | _ => none
theorem pair_eq {c : UInt8} (hc : ¬ (48 ≤ c.toNat ∧ c.toNat ≤ 57)) (w : List UInt8) : pairS c w = pairR c w := by
 unfold pairS pairR
 rcases cut_spl c w with ⟨h1, h2, h3⟩ | ⟨a, r, h1, rfl, h2, h3⟩
 ·rw [h2, h3]; rfl
 ·rw [h2, h3]
  dsimp only
  rw [if_pos rfl]
  rcases cut_spl c r with ⟨k1, k2, k3⟩ | ⟨b, q, k1, rfl, k2, k3⟩
  ·rw [k3]
  ·rw [k3]
   have hn : numS (b ++ c :: q) = none := numS_free hc (by simp)
   rw [hn]
   cases e : spl c q with
   | nil => exact absurd e (spl_ne c q)
   | cons x l => cases numS a <;> rfl
theorem pair_iff {c : UInt8} (hc : ¬ (48 ≤ c.toNat ∧ c.toNat ≤ 57)) {w : List UInt8} {a b : Int} : pairS c w = some (a, b) ↔ nat3 a ∧ nat3 b ∧ w = it3 a ++ c :: it3 b := by
 constructor
 ·intro h
  rw [pair_eq hc] at h
  unfold pairR at h
  split at h
  ·rename_i x y hs
   split at h
   ·rename_i a' b' ha hb
    injection h with h
    injection h with h1 h2
    subst h1 h2
    obtain ⟨k1, k2⟩ := numS_iff.1 ha
    obtain ⟨k3, k4⟩ := numS_iff.1 hb
    refine ⟨k1, k3, ?_⟩
    rw [← spl_join c w, hs, ← k2, ← k4]
    rfl
   ·cases h
  ·cases h
 ·rintro ⟨h1, h2, rfl⟩
  have f : ∀ {v : Int}, nat3 v → c ∉ it3 v := fun hv hm => hc (numS_byte (numS_iff.2 ⟨hv, rfl⟩) c hm)
  rw [pair_eq hc]
  unfold pairR
  rw [spl_app (f h1), spl_none (f h2)]
  dsimp only
  rw [numS_iff.2 ⟨h1, rfl⟩, numS_iff.2 ⟨h2, rfl⟩]
def sheetW : List UInt8 := [115, 104, 101, 101, 116]
def blankW : List UInt8 := [98, 108, 97, 110, 107]
def sawnW : List UInt8 := [115, 97, 119, 110]
def anyW : List UInt8 := [97, 110, 121]
def grainW : List UInt8 := [103, 114, 97, 105, 110]
def zeroS : Sk := { lo := 0, wi := 0, a0 := 0, a1 := 0, c0 := 0, c1 := 0, ps := [] }
def headS (w : List (List UInt8)) (s : Sk) : Option Sk := match w with
 | [k, p, q, r] => if k = sheetW then (match pairS 120 p, pairS 126 q, pairS 126 r with
  | some x, some y, some z => some { s with lo := x.1, wi := x.2, a0 := y.1, a1 := y.2, c0 := z.1, c1 := z.2 }
  | _, _, _ => none) else none
 | _ => none
def partS (w : List (List UInt8)) (s : Sk) : Option Sk := match w with
 | [k, p, q, r] => if k = blankW ∧ (q = anyW ∨ q = grainW) then (match pairS 120 p, numS r with
  | some x, some n => some { s with ps := s.ps ++ [⟨x.1, x.2, decide (q = grainW), n⟩] }
  | _, _ => none) else none
 | _ => none
def rowsS : Bool → Nat → List (List UInt8) → Sk → Sum Nat (Bool × Sk)
 | en, _, [], s => .inr (en, s)
 | en, i, r :: l, s =>
  if en = true then .inl (i + 1)
  else if i = 0 then (match headS (spl 32 r) s with | some t => rowsS false 1 l t | none => .inl (i + 1))
  else if r = sawnW then rowsS true (i + 1) l s
  else match partS (spl 32 r) s with | some t => rowsS false (i + 1) l t | none => .inl (i + 1)
end
section
open Go Go.Lib
def endS (chk : Sk → Int) (rows : List (List UInt8)) : Sum Nat (Bool × Sk) → Sk × Int × Int
 | .inl r => (zeroS, (r : Int), 2)
 | .inr (en, s) => if en = false ∨ rows.getLast? ≠ some [] then (zeroS, (rows.length : Int), 2) else if chk s ≠ 0 then (zeroS, 0, chk s) else (s, 0, 0)
def readS (chk : Sk → Int) (mx : Nat) (t : List UInt8) : Sk × Int × Int := if mx < t.length then (zeroS, 0, 10) else endS chk (spl 10 t) (rowsS false 0 (spl 10 t).dropLast zeroS)
def headT (s : Sk) : List UInt8 := sheetW ++ [32] ++ itoa s.lo ++ [120] ++ itoa s.wi ++ [32] ++ itoa s.a0 ++ [126] ++ itoa s.a1 ++ [32] ++ itoa s.c0 ++ [126] ++ itoa s.c1
def wordT (g : Bool) : List UInt8 := if g = true then grainW else anyW
def partT (p : Pt) : List UInt8 := blankW ++ [32] ++ itoa p.l ++ [120] ++ itoa p.w ++ [32] ++ wordT p.gr ++ [32] ++ itoa p.pa
def writeS (s : Sk) : List UInt8 := headT s ++ [10] ++ s.ps.flatMap (fun p => partT p ++ [10]) ++ sawnW ++ [10]
structure Pt.n3 (p : Pt) : Prop where
 l : nat3 p.l
 w : nat3 p.w
 pa : nat3 p.pa
structure Sk.n3 (s : Sk) : Prop where
 lo : nat3 s.lo
 wi : nat3 s.wi
 a0 : nat3 s.a0
 a1 : nat3 s.a1
 c0 : nat3 s.c0
 c1 : nat3 s.c1
 ps : ∀ p ∈ s.ps, p.n3
theorem it3_byte {v : Int} (h : nat3 v) : ∀ b ∈ it3 v, 48 ≤ b.toNat ∧ b.toNat ≤ 57 := numS_byte (numS_iff.2 ⟨h, rfl⟩)
theorem it3_no {v : Int} (h : nat3 v) {c : UInt8} (hc : ¬ (48 ≤ c.toNat ∧ c.toNat ≤ 57)) : c ∉ it3 v := fun hm => hc (it3_byte h c hm)
theorem itoa3 {v : Int} (h : nat3 v) : itoa v = it3 v := it3_eq ⟨by have := h.1; omega, h.2⟩
abbrev pairT (c : UInt8) (a b : Int) : List UInt8 := it3 a ++ c :: it3 b
theorem pairT_no {c d : UInt8} {a b : Int} (ha : nat3 a) (hb : nat3 b) (hd : ¬ (48 ≤ d.toNat ∧ d.toNat ≤ 57)) (hcd : d ≠ c) : d ∉ pairT c a b := by
 simp only [pairT, List.mem_append, List.mem_cons, not_or]
 exact ⟨it3_no ha hd, hcd, it3_no hb hd⟩
theorem head_join {s : Sk} (h : s.n3) : headT s = joinC 32 [sheetW, pairT 120 s.lo s.wi, pairT 126 s.a0 s.a1, pairT 126 s.c0 s.c1] := by
 unfold headT
 rw [itoa3 h.lo, itoa3 h.wi, itoa3 h.a0, itoa3 h.a1, itoa3 h.c0, itoa3 h.c1]
 simp only [joinC, pairT, List.append_assoc, List.cons_append, List.nil_append]
theorem part_join {p : Pt} (h : p.n3) : partT p = joinC 32 [blankW, pairT 120 p.l p.w, wordT p.gr, it3 p.pa] := by
 unfold partT
 rw [itoa3 h.l, itoa3 h.w, itoa3 h.pa]
 simp only [joinC, pairT, List.append_assoc, List.cons_append, List.nil_append]
theorem wordT_no (g : Bool) : (32 : UInt8) ∉ wordT g ∧ (10 : UInt8) ∉ wordT g := by cases g <;> exact ⟨by decide, by decide⟩
theorem head_spl {s : Sk} (h : s.n3) : spl 32 (headT s) = [sheetW, pairT 120 s.lo s.wi, pairT 126 s.a0 s.a1, pairT 126 s.c0 s.c1] := by
 rw [head_join h]
 refine join_spl (by simp) fun x hx => ?_
 simp only [List.mem_cons, List.not_mem_nil, or_false] at hx
 rcases hx with rfl | rfl | rfl | rfl
 · decide
 · exact pairT_no h.lo h.wi (by decide) (by decide)
 · exact pairT_no h.a0 h.a1 (by decide) (by decide)
 · exact pairT_no h.c0 h.c1 (by decide) (by decide)
theorem part_spl {p : Pt} (h : p.n3) : spl 32 (partT p) = [blankW, pairT 120 p.l p.w, wordT p.gr, it3 p.pa] := by
 rw [part_join h]
 refine join_spl (by simp) fun x hx => ?_
 simp only [List.mem_cons, List.not_mem_nil, or_false] at hx
 rcases hx with rfl | rfl | rfl | rfl
 · decide
 · exact pairT_no h.l h.w (by decide) (by decide)
 · exact (wordT_no p.gr).1
 · exact it3_no h.pa (by decide)
theorem joinC_no {c : UInt8} (hc : c ≠ 32) : ∀ {l : List (List UInt8)}, (∀ x ∈ l, c ∉ x) → c ∉ joinC 32 l
 | [], _ => List.not_mem_nil
 | [x], h => h x Zz2
 | x :: y :: l, h => by
  rw [joinC_cons (by simp)]
  simp only [List.mem_append, List.mem_cons, not_or]
  exact ⟨h x Zz2, hc, joinC_no hc fun z hz => h z (Zz1 hz)⟩
theorem head_no {s : Sk} (h : s.n3) : (10 : UInt8) ∉ headT s := by
 rw [head_join h]
 refine joinC_no (by decide) fun x hx => ?_
 simp only [List.mem_cons, List.not_mem_nil, or_false] at hx
 rcases hx with rfl | rfl | rfl | rfl
 · decide
 · exact pairT_no h.lo h.wi (by decide) (by decide)
 · exact pairT_no h.a0 h.a1 (by decide) (by decide)
 · exact pairT_no h.c0 h.c1 (by decide) (by decide)
theorem part_no {p : Pt} (h : p.n3) : (10 : UInt8) ∉ partT p := by
 rw [part_join h]
 refine joinC_no (by decide) fun x hx => ?_
 simp only [List.mem_cons, List.not_mem_nil, or_false] at hx
 rcases hx with rfl | rfl | rfl | rfl
 · decide
 · exact pairT_no h.l h.w (by decide) (by decide)
 · exact (wordT_no p.gr).2
 · exact it3_no h.pa (by decide)
theorem joinC_rows (ls : List (List UInt8)) : joinC 10 (ls ++ [[]]) = ls.flatMap fun s => s ++ [10] := by
 induction ls with
 | nil => rfl
 | cons a l ih =>
  rw [List.cons_append, joinC_cons (by simp), ih, List.flatMap_cons]
  simp
theorem writeS_rows (s : Sk) : writeS s = joinC 10 ((headT s :: (s.ps.map partT ++ [sawnW])) ++ [[]]) := by
 rw [joinC_rows, List.flatMap_cons, List.flatMap_append, List.flatMap_map]
 unfold writeS
 simp
theorem writeS_spl {s : Sk} (h : s.n3) : spl 10 (writeS s) = (headT s :: (s.ps.map partT ++ [sawnW])) ++ [[]] := by
 rw [writeS_rows]
 refine join_spl (by simp) fun x hx => ?_
 simp only [List.cons_append, List.mem_cons, List.mem_append, List.mem_map, List.not_mem_nil, or_false] at hx
 rcases hx with rfl | (⟨p, hp, rfl⟩ | rfl) | rfl
 · exact head_no h
 · exact part_no (h.ps p hp)
 · decide
 · exact List.not_mem_nil
theorem part_not_sawn {p : Pt} : partT p ≠ sawnW := fun h => by
 have := congrArg List.head? h
 simp [partT, blankW, sawnW] at this
theorem partS_part {p : Pt} (h : p.n3) (s : Sk) : partS (spl 32 (partT p)) s = some { s with ps := s.ps ++ [p] } := by
 rw [part_spl h]
 unfold partS
 dsimp only
 rw [if_pos ⟨rfl, by cases p.gr <;> simp [wordT]⟩, (pair_iff (by decide)).2 ⟨h.l, h.w, rfl⟩, numS_iff.2 ⟨h.pa, rfl⟩]
 dsimp only
 have : decide (wordT p.gr = grainW) = p.gr := by cases p.gr <;> decide
 rw [this]
theorem headS_head {s : Sk} (h : s.n3) : headS (spl 32 (headT s)) zeroS = some { s with ps := [] } := by
 rw [head_spl h]
 unfold headS
 dsimp only
 rw [if_pos rfl, (pair_iff (by decide)).2 ⟨h.lo, h.wi, rfl⟩, (pair_iff (by decide)).2 ⟨h.a0, h.a1, rfl⟩, (pair_iff (by decide)).2 ⟨h.c0, h.c1, rfl⟩]
 rfl
theorem rowsS_parts : ∀ (qs : List Pt) (i : Nat) (s : Sk), (∀ p ∈ qs, p.n3) → rowsS false (i + 1) (qs.map partT ++ [sawnW]) s = .inr (true, { s with ps := s.ps ++ qs })
 | [], i, s, _ => by
  show rowsS false (i + 1) [sawnW] s = _
  unfold rowsS
  rw [if_neg (by decide), if_neg (by omega), if_pos rfl, List.append_nil]
  rfl
 | p :: qs, i, s, h => by
  rw [List.map_cons, List.cons_append]
  unfold rowsS
  rw [if_neg (by decide), if_neg (by omega), if_neg part_not_sawn, partS_part (h p Zz2)]
  dsimp only
  rw [rowsS_parts qs (i + 1) _ fun q hq => h q (Zz1 hq)]
  simp
theorem writeS_read {chk : Sk → Int} {mx : Nat} {s : Sk} (h : s.n3) (hl : (writeS s).length ≤ mx) (hc : chk s = 0) : readS chk mx (writeS s) = (s, 0, 0) := by
 unfold readS
 rw [if_neg (by omega), writeS_spl h, List.dropLast_concat]
 have e : rowsS false 0 (headT s :: (s.ps.map partT ++ [sawnW])) zeroS = .inr (true, s) := by
  unfold rowsS
  rw [if_neg (by decide), if_pos rfl, headS_head h]
  dsimp only
  rw [rowsS_parts s.ps 0 _ h.ps]
  rfl
 rw [e]
 show (if _ then _ else _) = _
 rw [if_neg (by rw [List.getLast?_append]; simp), if_neg (by simp [hc])]
theorem partS_some {r : List UInt8} {s t : Sk} (h : partS (spl 32 r) s = some t) : ∃ p : Pt, p.n3 ∧ r = partT p ∧ t = { s with ps := s.ps ++ [p] } := by
 unfold partS at h
 split at h
 ·rename_i k p q r' hs
  split at h
  ·rename_i hk
   obtain ⟨rfl, hq⟩ := hk
   split at h
   ·rename_i x n hx hn
    injection h with h
    subst h
    obtain ⟨h1, h2, h3⟩ := (pair_iff (by decide)).1 (show pairS 120 p = some (x.1, x.2) from hx)
    obtain ⟨h4, h5⟩ := numS_iff.1 hn
    refine ⟨⟨x.1, x.2, decide (q = grainW), n⟩, ⟨h1, h2, h4⟩, ?_, rfl⟩
    have hw : wordT (decide (q = grainW)) = q := by
     rcases hq with rfl | rfl <;> decide
    rw [part_join (p := ⟨x.1, x.2, decide (q = grainW), n⟩) ⟨h1, h2, h4⟩, hw, ← spl_join 32 r, hs, h3, h5]
   ·cases h
  ·cases h
 ·cases h
theorem headS_some {r : List UInt8} {s t : Sk} (h : headS (spl 32 r) s = some t) : ∃ y : Sk, (y.ps = [] → y.n3) ∧ r = headT y ∧ t = { y with ps := s.ps } ∧ (nat3 y.lo ∧ nat3 y.wi ∧ nat3 y.a0 ∧ nat3 y.a1 ∧ nat3 y.c0 ∧ nat3 y.c1) := by
 unfold headS at h
 split at h
 ·rename_i k p q r' hs
  split at h
  ·rename_i hk
   subst hk
   split at h
   ·rename_i x y z hx hy hz
    injection h with h
    subst h
    obtain ⟨h1, h2, h3⟩ := (pair_iff (by decide)).1 (show pairS 120 p = some (x.1, x.2) from hx)
    obtain ⟨h4, h5, h6⟩ := (pair_iff (by decide)).1 (show pairS 126 q = some (y.1, y.2) from hy)
    obtain ⟨h7, h8, h9⟩ := (pair_iff (by decide)).1 (show pairS 126 r' = some (z.1, z.2) from hz)
    have hn : ({ lo := x.1, wi := x.2, a0 := y.1, a1 := y.2, c0 := z.1, c1 := z.2, ps := [] } : Sk).n3 := ⟨h1, h2, h4, h5, h7, h8, fun p hp => by cases hp⟩
    refine ⟨{ lo := x.1, wi := x.2, a0 := y.1, a1 := y.2, c0 := z.1, c1 := z.2, ps := [] }, fun _ => hn, ?_, rfl, h1, h2, h4, h5, h7, h8⟩
    rw [head_join hn, ← spl_join 32 r, hs, h3, h6, h9]
   ·cases h
  ·cases h
 ·cases h
theorem rowsS_true : ∀ (ls : List (List UInt8)) (i : Nat) (s : Sk) (y : Bool × Sk), rowsS true i ls s = .inr y → ls = [] ∧ y = (true, s)
 | [], i, s, y, h => by
  unfold rowsS at h
  injection h with h
  exact ⟨rfl, h.symm⟩
 | r :: l, i, s, y, h => by
  unfold rowsS at h
  rw [if_pos rfl] at h
  cases h
theorem rowsS_some : ∀ (ls : List (List UInt8)) (i : Nat) (s y : Sk), rowsS false (i + 1) ls s = .inr (true, y) → ∃ qs : List Pt, (∀ p ∈ qs, p.n3) ∧ ls = qs.map partT ++ [sawnW] ∧ y = { s with ps := s.ps ++ qs }
 | [], i, s, y, h => by
  unfold rowsS at h
  injection h with h
  cases h
 | r :: l, i, s, y, h => by
  unfold rowsS at h
  rw [if_neg (by decide), if_neg (by omega)] at h
  split at h
  ·rename_i hr
   obtain ⟨rfl, e⟩ := rowsS_true _ _ _ _ h
   injection e with _ e
   exact ⟨[], (fun p hp => absurd hp List.not_mem_nil), (by rw [hr]; rfl), (by rw [e, List.append_nil])⟩
  ·split at h
   ·rename_i t ht
    obtain ⟨p, hp, rfl, rfl⟩ := partS_some ht
    obtain ⟨qs, h1, rfl, rfl⟩ := rowsS_some l (i + 1) _ y h
    refine ⟨p :: qs, fun q hq => ?_, rfl, by simp⟩
    rcases List.mem_cons.1 hq with rfl | hq
    ·exact hp
    ·exact h1 q hq
   ·cases h
theorem readS_write {chk : Sk → Int} {mx : Nat} {t : List UInt8} {y : Sk} {row : Int} (h : readS chk mx t = (y, row, 0)) : chk y = 0 ∧ writeS y = t ∧ y.n3 := by
 unfold readS at h
 split at h
 ·injection h with _ h; injection h with _ h; cases h
 ·cases hr : rowsS false 0 (spl 10 t).dropLast zeroS with
  | inl r => rw [hr] at h; injection h with _ h; injection h with _ h; cases h
  | inr es =>
   obtain ⟨en, s⟩ := es
   rw [hr] at h
   unfold endS at h
   dsimp only at h
   split at h
   ·injection h with _ h; injection h with _ h; cases h
   ·rename_i hd
    split at h
    ·rename_i hc
     injection h with _ h; injection h with _ h; exact absurd h hc
    ·rename_i hc
     injection h with h _
     subst h
     simp only [not_or, Bool.not_eq_false, ne_eq, Decidable.not_not] at hd hc
     obtain ⟨rfl, hlast⟩ := hd
     have h7 : spl 10 t = (spl 10 t).dropLast ++ [[]] := by
      rw [List.getLast?_eq_some_iff] at hlast
      obtain ⟨r, hr⟩ := hlast
      rw [hr, List.dropLast_concat]
     obtain ⟨ls, hls⟩ : ∃ ls, ls = (spl 10 t).dropLast := ⟨_, rfl⟩
     rw [← hls] at hr h7
     cases ls with
     | nil => unfold rowsS at hr; injection hr with hr; cases hr
     | cons r l =>
      unfold rowsS at hr
      rw [if_neg (by decide), if_pos rfl] at hr
      split at hr
      ·rename_i t' ht
       obtain ⟨y0, -, rfl, rfl, k1, k2, k3, k4, k5, k6⟩ := headS_some ht
       obtain ⟨qs, q1, rfl, rfl⟩ := rowsS_some l 0 _ _ hr
       have e1 : ({ y0 with ps := ([] : List Pt) ++ qs } : Sk).n3 := ⟨k1, k2, k3, k4, k5, k6, fun p hp => q1 p hp⟩
       refine ⟨hc, ?_, e1⟩
       rw [writeS_rows]
       have h8 := spl_join 10 t
       rw [h7] at h8
       exact h8
      ·cases hr
end
section
open Go Go.Lib
theorem itoa_len {v : Int} (h : sm v) : (itoa v).length ≤ 4 := by
 rw [it3_eq h]
 unfold it3 dd3
 split <;> split <;> (try split) <;> simp
theorem joinC_end {c : UInt8} : ∀ {l : List (List UInt8)}, l ≠ [] → joinC c (l ++ [[]]) = joinC c l ++ [c]
 | [], h => absurd rfl h
 | [x], _ => rfl
 | x :: y :: l, _ => by
  have ih := joinC_end (c := c) (l := y :: l) (by simp)
  show x ++ c :: joinC c (y :: l ++ [[]]) = (x ++ c :: joinC c (y :: l)) ++ [c]
  rw [ih]
  simp
theorem joinC_len {c : UInt8} {m : Nat} : ∀ {l : List (List UInt8)}, (∀ x ∈ l, x.length ≤ m) → (joinC c l).length ≤ l.length * (m + 1)
 | [], _ => Nat.zero_le _
 | [x], h => by
  have := h x Zz2
  show x.length ≤ 1 * (m + 1)
  omega
 | x :: y :: l, h => by
  have h1 := h x Zz2
  have ih := joinC_len (c := c) (l := y :: l) fun z hz => h z (Zz1 hz)
  rw [joinC_cons (by simp), List.length_append, List.length_cons, List.length_cons, Nat.succ_mul]
  omega
theorem join_joinC (c : UInt8) : ∀ l : List (List UInt8), Lib.join l [c] = joinC c l
 | [] => rfl
 | [x] => Lib.join_one x [c]
 | x :: y :: l => by
  have ih := join_joinC c (y :: l)
  rw [joinC_cons (by simp), ← ih, Lib.join_cons, Lib.join_cons]
  simp [Lib.joinTail]
end
theorem st_map (l : List (List UInt8)) : st l = l.map fun p => sv p := by
 unfold st
 induction l with
 | nil => rfl
 | cons a l ih => rw [List.flatMap_cons, ih]; rfl
theorem Join_any (l : List (List UInt8)) (A : Option Addr) (c : Nat) (w : World) (hr : Rd w w.heap.size 1 A l.length (st l)) (h0 : 0 < l.length) (hc : l.length ≤ c) (hl : (joinC 10 l).length ≤ 1000000) (hn : l.length ≤ 1000000) :
  Calls Tryz.prog 68 #[.slice A l.length c, sv [10]] w fun e w' => e = .returned (sv (joinC 10 l)) ∧ Below w.heap.size w w' := by
 obtain ⟨b, o, rfl, hb, hcl⟩ := hr.2 h0
 have hm : l.map (fun s => (⟨s.toArray⟩ : ByteArray).data.toList) = l := by
  induction l with
  | nil => rfl
  | cons a l ih => simp
 have hx := Any.strings_Join Tryz.lays156 Tryz.Builder_Extra_156 b o c (l.map fun s => (⟨s.toArray⟩ : ByteArray)) ⟨[10].toArray⟩ w (fun j x hx => by
  obtain ⟨s, hs, rfl⟩ := Option.map_eq_some_iff.1 ((List.getElem?_map ..).symm.trans hx)
  exact hcl j (sv s) (by rw [st_map, List.getElem?_map, hs]; rfl)) hb (by rw [List.length_map]; omega) (by rw [List.length_map]; exact hc) (by
  rw [List.map_map]
  show (Lib.join (l.map fun s => (⟨s.toArray⟩ : ByteArray).data.toList) [10]).length ≤ _
  rw [hm, join_joinC]
  omega)
 rw [List.length_map, List.map_map] at hx
 have e : Lib.join (l.map ((fun x => x.data.toList) ∘ fun s => (⟨s.toArray⟩ : ByteArray))) (⟨[10].toArray⟩ : ByteArray).data.toList = joinC 10 l := by
  show Lib.join (l.map fun s => (⟨s.toArray⟩ : ByteArray).data.toList) [10] = _
  rw [hm, join_joinC]
 rw [e] at hx
 exact hx
theorem JoinR_any {w0 w : World} {ex : Nat → Prop} {L : List (Nat × BA)} {g e n cap : Nat} (l : List (List UInt8)) (M : Mem w0 ex w L) (hm : (g, BA.row e 1 n (st l) cap) ∈ L) (hn : n = l.length) (hl : (joinC 10 l).length ≤ 1000000) (h9 : l.length ≤ 1000000) :
  Calls Tryz.prog 68 #[.slice (some ⟨g, 0, none⟩) n cap, sv [10]] w fun e w' => e = .returned (sv (joinC 10 l)) ∧ Below w.heap.size w w' := by
 subst hn
 have hR := M.rdRow hm
 obtain ⟨hb, h0⟩ := (M.blk _ hm).2
 obtain ⟨g', cap', e1, hc, _⟩ := own_form hb h0
 injection e1 with _ _ e1
 exact Join_any l _ cap w hR h0 (by rw [e1]; exact hc) hl h9
def rowsT (s : Sk) (k : Nat) : List (List UInt8) := headT s :: (s.ps.take k).map partT
theorem rowsT_snoc {s : Sk} {k : Nat} {p : Pt} (h : s.ps[k]? = some p) : rowsT s (k + 1) = rowsT s k ++ [partT p] := by
 unfold rowsT
 rw [List.take_add_one, h]
 simp
theorem rowsT_len {s : Sk} {k : Nat} (h : k ≤ s.ps.length) : (rowsT s k).length = k + 1 := by
 unfold rowsT
 rw [List.length_cons, List.length_map, List.length_take]
 omega
theorem good_n3 {s : Sk} (h : s.good) : s.n3 := by
 have h1 := h.lo
 have h2 := h.wi
 have h3 := h.a
 have h4 := h.c
 exact ⟨⟨by omega, by omega⟩, ⟨by omega, by omega⟩, ⟨by omega, by omega⟩, ⟨by omega, by omega⟩, ⟨by omega, by omega⟩, ⟨by omega, by omega⟩, fun p hp => by
  have h5 := h.ps p hp
  have h6 := h5.l
  have h7 := h5.w
  have h8 := h5.pa
  exact ⟨⟨by omega, by omega⟩, ⟨by omega, by omega⟩, ⟨by omega, by omega⟩⟩⟩
theorem n3_sm {v : Int} (h : nat3 v) : sm v := ⟨by have := h.1; omega, h.2⟩
theorem head_len {s : Sk} (h : s.n3) : (headT s).length ≤ 40 := by
 have h1 := itoa_len (n3_sm h.lo)
 have h2 := itoa_len (n3_sm h.wi)
 have h3 := itoa_len (n3_sm h.a0)
 have h4 := itoa_len (n3_sm h.a1)
 have h5 := itoa_len (n3_sm h.c0)
 have h6 := itoa_len (n3_sm h.c1)
 simp only [headT, sheetW, List.length_append, List.length_cons, List.length_nil]
 omega
theorem word_len (g : Bool) : (wordT g).length ≤ 5 := by cases g <;> decide
theorem part_len {p : Pt} (h : p.n3) : (partT p).length ≤ 40 := by
 have h1 := itoa_len (n3_sm h.l)
 have h2 := itoa_len (n3_sm h.w)
 have h3 := itoa_len (n3_sm h.pa)
 have h4 := word_len p.gr
 simp only [partT, blankW, List.length_append, List.length_cons, List.length_nil]
 omega
theorem rows_len {s : Sk} (h : s.n3) (h5 : s.ps.length ≤ 5) : (joinC 10 (rowsT s s.ps.length ++ [sawnW])).length ≤ 300 := by
 have h1 := joinC_len (c := 10) (m := 40) (l := rowsT s s.ps.length ++ [sawnW]) (fun x hx => by
  rcases List.mem_append.1 hx with hx | hx
  ·rcases List.mem_cons.1 hx with rfl | hx
   ·exact head_len h
   ·obtain ⟨p, hp, rfl⟩ := List.mem_map.1 hx
    exact part_len (h.ps p ((List.take_sublist _ _).subset hp))
  ·rcases List.mem_singleton.1 hx with rfl
   decide)
 rw [List.length_append, rowsT_len (Nat.le_refl _), List.length_singleton] at h1
 omega
theorem write_is (s : Sk) : joinC 10 (rowsT s s.ps.length ++ [sawnW]) ++ [10] = writeS s := by
 rw [writeS_rows, ← joinC_end (by simp)]
 unfold rowsT
 rw [List.take_length]
 rfl
def wrS (s : Sk) : List UInt8 := if skErr s = 0 then writeS s else []
theorem Tryz.info9 : (Tryz.prog.info? 9).map (fun i => (i.zero, i.size, i.bytes)) = some (some (.string ByteArray.empty), 1, 16) := by kernel_rfl
theorem wpair_any (a b : Int) (t : List UInt8) (w : World) (ha : sm a) (hb : sm b) (ht : t.length ≤ 8) (hT : StrW w)  :
  Calls Tryz.prog 67 #[.int .i64 a, sv t, .int .i64 b] w fun e w' => e = .returned (sv (Lib.itoa a ++ t ++ Lib.itoa b)) ∧ Below w.heap.size w w' := by
 obtain ⟨h2, h3⟩ := ha
 obtain ⟨h4, h5⟩ := hb
 refine Zpx noEx Tryz.func67 rfl 14 rfl [.int .i64 a, sv t, .int .i64 b] rfl rfl (Mem.init w _) ?_
 intro ac wc T M
 refine Zsr ?_
 refine lq T (Zra rfl evc) ?_; clear T ac; intro ac T
 replace T := T.pick [1, 2, 3] rfl
 refine Zln ?_
 refine Zsr ?_
 refine lq T (Zrm rfl (T.e 0 rfl)) ?_; clear T ac; intro ac T
 refine Zl2 ?_
 refine Zoc (first := []) (cap := []) T rfl rfl rfl rfl evf (.cons (T.e 0 rfl) .nil) Tryz.func43 rfl rfl ?_
 refine Calls.mono (Itoa_any a _ (by (try dsimp only); omega) (hT.mem0 M)) ?_
 clear T; rintro e wc ⟨rfl, hb⟩ ac T
 replace M := M.call hb; clear hb
 have hiu1 := itoa_len (v := a) ⟨by (try dsimp only); omega, by (try dsimp only); omega⟩
 refine Zg3 T (Zq (Zrm rfl (T.e 3 rfl))) rfl (fun _ T => Zq (rn_sadd rfl (T.e 1 rfl) (T.e 0 rfl) (by (try simp only [List.length_append, List.length_cons, List.length_nil]); omega))) rfl (Zm 6 rfl rfl) rfl ?_; clear T ac; intro ac T
 refine Zl2 ?_
 refine Zoc (first := []) (cap := []) T rfl rfl rfl rfl evf (.cons (T.e 0 rfl) .nil) Tryz.func43 rfl rfl ?_
 refine Calls.mono (Itoa_any b _ (by (try dsimp only); omega) (hT.mem0 M)) ?_
 clear T; rintro e wc ⟨rfl, hb⟩ ac T
 replace M := M.call hb; clear hb
 have hiu2 := itoa_len (v := b) ⟨by (try dsimp only); omega, by (try dsimp only); omega⟩
 refine Zg2 T (Zq (rn_sadd rfl (T.e 2 rfl) (T.e 0 rfl) (by (try simp only [List.length_append, List.length_cons, List.length_nil]); omega))) rfl (Za 0 rfl rfl) rfl ?_; clear T ac; intro ac T
 replace T := T.pick [0] rfl
 refine Zln ?_
 refine wp_ret ?_
 refine rt_1 T rfl (T.e 0 rfl) ?_
 exact ⟨rfl, M.below⟩
theorem swrite_any (s : Sk) (A : Option Addr) (c : Nat)  (w : World) (hA : Rd w w.heap.size 4 A s.ps.length (pc s.ps)) (nA : s.ps.length ≤ 1000000) (hT : StrW w)  :
   Calls Tryz.prog 18 #[.agg #[.int .i64 s.lo, .int .i64 s.wi, .int .i64 s.a0, .int .i64 s.a1, .int .i64 s.c0, .int .i64 s.c1, .slice A s.ps.length c]] w fun e w' => e = .returned (.tuple #[sv (wrS s), .int .i64 (skErr s)]) ∧ Below w.heap.size w w' := by
 obtain ⟨bA, oA, SA⟩ := Sp.old hA
 refine Zpx noEx Tryz.func18 rfl 76 rfl [.agg #[.int .i64 s.lo, .int .i64 s.wi, .int .i64 s.a0, .int .i64 s.a1, .int .i64 s.c0, .int .i64 s.c1, .slice A s.ps.length c]] rfl rfl (Mem.init w _) ?_
 intro ac wc T M
 refine Zsr ?_
 refine Zl2 ?_
 refine Zob M T rfl rfl rfl rfl (T.e 0 rfl) rfl ?_; clear M T; intro g1 wc ac M T
 refine Zg2 T (Zq (Zra rfl evc)) rfl (Zc rfl) rfl ?_; clear T ac; intro ac T
 replace T := T.pick [2] rfl
 refine Zln ?_
 refine wp_seq ?_
 refine Zsr ?_
 refine lq T (Zrr (Mem.nth M 0 rfl) rfl (T.e 0 rfl) rfl) ?_; clear T ac; intro ac T
 refine Zl2 ?_
 refine Zoc (first := []) (cap := []) T rfl rfl rfl rfl evf (.cons (T.e 0 rfl) .nil) Tryz.func66 rfl rfl ?_
 refine Calls.mono (skCheck_any s A c _ (SA.rd M (Zz9 _)) (by omega)) ?_
 clear T; rintro e wc ⟨rfl, hb⟩ ac T
 replace M := M.call hb; clear hb
 refine lq T (Zra rfl (T.e 0 rfl)) ?_; clear T ac; intro ac T
 replace T := T.pick [0, 3] rfl
 refine Zln ?_
 refine Zsr ?_
 refine Zg2 T (Zq (Zrm rfl (T.e 0 rfl))) rfl (fun _ T => Zq (rn_neq rfl (T.e 0 rfl) evc)) rfl ?_; clear T ac; intro ac T
 replace T := T.pick [0, 2, 3] rfl
 refine Zln ?_
 refine wp_ifn (T.e 0 rfl) ?_ ?_
 ·intro h1
  refine Zsr ?_
  refine Zg3 T (Zq (Zrm rfl (T.e 1 rfl))) rfl (Zc rfl) rfl (Za 1 rfl rfl) rfl ?_; clear T ac; intro ac T
  refine wpList_nil ?_
  replace T := T.pick [0, 1] rfl
  replace M := M.mask [false] rfl
  refine Znr ?_
  refine Zrt ?_
  refine rt_2 T rfl (T.e 1 rfl) (T.e 0 rfl) ?_
  have e9 : wrS s = [] := by unfold wrS; rw [if_neg (by assumption)]
  rw [e9]
  exact ⟨rfl, M.below⟩
 intro h1
 have hsg := skErr_iff.1 (show skErr s = 0 by omega)
 have hsn := good_n3 hsg
 have hs5 := hsg.len
 obtain ⟨⟨hq1, hq2⟩, ⟨hq3, hq4⟩, ⟨hq5, hq6⟩, ⟨hq7, hq8⟩, ⟨hq9, hq10⟩, ⟨hq11, hq12⟩, -⟩ := hsn
 have hsn := good_n3 hsg
 refine Zsk ?_
 refine Zsr ?_
 refine lq T (Zra rfl evf) ?_; clear T ac; intro ac T
 replace T := T.pick [0, 3] rfl
 refine Zln ?_
 refine wp_seq ?_
 refine Zgs M (M.mask [true] rfl) 29 (by kernel_rfl) rfl (by kernel_rfl) ?_
 clear M; intro wc M
 refine gq T 0 1 rfl (fun _ _ _ _ _ => (Zrm rfl (T.e 0 rfl))) ?_; clear T ac; intro ac T
 refine gq (v := (.pointer (some ⟨g1, 0, none⟩))) T 1 3 rfl (fun _ _ _ _ _ => (Zrf (off := 0) rfl (T.e 2 rfl) (fun _ _ _ => by kernel_rfl))) ?_; clear T ac; intro ac T
 refine gq T 2 7 rfl (fun B w' hD hl hS => (Zro (Mem.nth (show Mem w noEx w' _ from hS) 0 rfl) rfl (T.e 0 rfl) rfl)) ?_; clear T ac; intro ac T
 refine gq (v := (.pointer (some ⟨g1, 1, none⟩))) T 3 15 rfl (fun _ _ _ _ _ => (Zrf (off := 1) rfl (T.e 4 rfl) (fun _ _ _ => by kernel_rfl))) ?_; clear T ac; intro ac T
 refine gq T 4 31 rfl (fun B w' hD hl hS => (Zro (Mem.nth (show Mem w noEx w' _ from hS) 0 rfl) rfl (T.e 0 rfl) rfl)) ?_; clear T ac; intro ac T
 refine gq T 8 287 rfl (fun _ _ _ _ _ => (Zrm rfl (T.e 5 rfl))) ?_; clear T ac; intro ac T
 refine gq (v := (.pointer (some ⟨g1, 2, none⟩))) T 9 799 rfl (fun _ _ _ _ _ => (Zrf (off := 2) rfl (T.e 7 rfl) (fun _ _ _ => by kernel_rfl))) ?_; clear T ac; intro ac T
 refine gq (v := (.pointer (some ⟨g1, 2, none⟩))) T 10 1823 rfl (fun _ _ _ _ _ => (Zrf (off := 0) rfl (T.e 0 rfl) (fun _ _ _ => by kernel_rfl))) ?_; clear T ac; intro ac T
 refine gq T 11 3871 rfl (fun B w' hD hl hS => (Zro (Mem.nth (show Mem w noEx w' _ from hS) 0 rfl) rfl (T.e 0 rfl) rfl)) ?_; clear T ac; intro ac T
 refine gq (v := (.pointer (some ⟨g1, 2, none⟩))) T 12 7967 rfl (fun _ _ _ _ _ => (Zrf (off := 2) rfl (T.e 10 rfl) (fun _ _ _ => by kernel_rfl))) ?_; clear T ac; intro ac T
 refine gq (v := (.pointer (some ⟨g1, 3, none⟩))) T 13 16159 rfl (fun _ _ _ _ _ => (Zrf (off := 1) rfl (T.e 0 rfl) (fun _ _ _ => by kernel_rfl))) ?_; clear T ac; intro ac T
 refine gq T 14 32543 rfl (fun B w' hD hl hS => (Zro (Mem.nth (show Mem w noEx w' _ from hS) 0 rfl) rfl (T.e 0 rfl) rfl)) ?_; clear T ac; intro ac T
 refine gq T 18 294687 rfl (fun _ _ _ _ _ => (Zrm rfl (T.e 12 rfl))) ?_; clear T ac; intro ac T
 refine gq (v := (.pointer (some ⟨g1, 4, none⟩))) T 19 818975 rfl (fun _ _ _ _ _ => (Zrf (off := 4) rfl (T.e 14 rfl) (fun _ _ _ => by kernel_rfl))) ?_; clear T ac; intro ac T
 refine gq (v := (.pointer (some ⟨g1, 4, none⟩))) T 20 1867551 rfl (fun _ _ _ _ _ => (Zrf (off := 0) rfl (T.e 0 rfl) (fun _ _ _ => by kernel_rfl))) ?_; clear T ac; intro ac T
 refine gq T 21 3964703 rfl (fun B w' hD hl hS => (Zro (Mem.nth (show Mem w noEx w' _ from hS) 0 rfl) rfl (T.e 0 rfl) rfl)) ?_; clear T ac; intro ac T
 refine gq (v := (.pointer (some ⟨g1, 4, none⟩))) T 22 8159007 rfl (fun _ _ _ _ _ => (Zrf (off := 4) rfl (T.e 17 rfl) (fun _ _ _ => by kernel_rfl))) ?_; clear T ac; intro ac T
 refine gq (v := (.pointer (some ⟨g1, 5, none⟩))) T 23 16547615 rfl (fun _ _ _ _ _ => (Zrf (off := 1) rfl (T.e 0 rfl) (fun _ _ _ => by kernel_rfl))) ?_; clear T ac; intro ac T
 refine gq T 24 33324831 rfl (fun B w' hD hl hS => (Zro (Mem.nth (show Mem w noEx w' _ from hS) 0 rfl) rfl (T.e 0 rfl) rfl)) ?_; clear T ac; intro ac T
 refine gw 5 33324863 ?_; intro K hK
 refine Zoc (first := []) (cap := []) T rfl rfl rfl rfl (T.e 18 rfl) (.cons (T.e 16 rfl) (.cons evc (.cons (T.e 14 rfl) .nil))) Tryz.func67 rfl rfl ?_
 refine Calls.mono (wpair_any s.lo s.wi [120] _ ⟨by (try dsimp only); omega, by (try dsimp only); omega⟩ ⟨by (try dsimp only); omega, by (try dsimp only); omega⟩ (by simp) (hT.mem0 M)) ?_
 clear T; rintro e wc ⟨rfl, hb⟩ ac T
 replace M := M.call hb; clear hb
 have hiu2 := itoa_len (v := s.lo) ⟨by (try dsimp only); omega, by (try dsimp only); omega⟩
 have hju2 := itoa_len (v := s.wi) ⟨by (try dsimp only); omega, by (try dsimp only); omega⟩
 refine Zso hK _ _ (M.mask [true] rfl) ?_; clear hK K
 refine gq T 6 33324927 rfl (fun _ _ _ _ _ => (rn_sadd rfl evc (T.e 0 rfl) (by (try simp only [List.length_append, List.length_cons, List.length_nil]); omega))) ?_; clear T ac; intro ac T
 refine gq T 7 33325055 rfl (fun _ _ _ _ _ => (rn_sadd rfl (T.e 0 rfl) evc (by (try simp only [List.length_append, List.length_cons, List.length_nil]); omega))) ?_; clear T ac; intro ac T
 refine gw 15 33357823 ?_; intro K hK
 refine Zoc (first := []) (cap := []) T rfl rfl rfl rfl (T.e 16 rfl) (.cons (T.e 13 rfl) (.cons evc (.cons (T.e 10 rfl) .nil))) Tryz.func67 rfl rfl ?_
 refine Calls.mono (wpair_any s.a0 s.a1 [126] _ ⟨by (try dsimp only); omega, by (try dsimp only); omega⟩ ⟨by (try dsimp only); omega, by (try dsimp only); omega⟩ (by simp) (hT.mem0 M)) ?_
 clear T; rintro e wc ⟨rfl, hb⟩ ac T
 replace M := M.call hb; clear hb
 have hiu3 := itoa_len (v := s.a0) ⟨by (try dsimp only); omega, by (try dsimp only); omega⟩
 have hju3 := itoa_len (v := s.a1) ⟨by (try dsimp only); omega, by (try dsimp only); omega⟩
 refine Zso hK _ _ (M.mask [true] rfl) ?_; clear hK K
 refine gq T 16 33423359 rfl (fun _ _ _ _ _ => (rn_sadd rfl (T.e 1 rfl) (T.e 0 rfl) (by (try simp only [List.length_append, List.length_cons, List.length_nil]); omega))) ?_; clear T ac; intro ac T
 refine gq T 17 33554431 rfl (fun _ _ _ _ _ => (rn_sadd rfl (T.e 0 rfl) evc (by (try simp only [List.length_append, List.length_cons, List.length_nil]); omega))) ?_; clear T ac; intro ac T
 refine gw 25 67108863 ?_; intro K hK
 refine Zoc (first := []) (cap := []) T rfl rfl rfl rfl (T.e 12 rfl) (.cons (T.e 9 rfl) (.cons evc (.cons (T.e 6 rfl) .nil))) Tryz.func67 rfl rfl ?_
 refine Calls.mono (wpair_any s.c0 s.c1 [126] _ ⟨by (try dsimp only); omega, by (try dsimp only); omega⟩ ⟨by (try dsimp only); omega, by (try dsimp only); omega⟩ (by simp) (hT.mem0 M)) ?_
 clear T; rintro e wc ⟨rfl, hb⟩ ac T
 replace M := M.call hb; clear hb
 have hiu4 := itoa_len (v := s.c0) ⟨by (try dsimp only); omega, by (try dsimp only); omega⟩
 have hju4 := itoa_len (v := s.c1) ⟨by (try dsimp only); omega, by (try dsimp only); omega⟩
 refine Zso hK _ _ (M.mask [true] rfl) ?_; clear hK K
 refine gq T 26 134217727 rfl (fun _ _ _ _ _ => (rn_sadd rfl (T.e 1 rfl) (T.e 0 rfl) (by (try simp only [List.length_append, List.length_cons, List.length_nil]); omega))) ?_; clear T ac; intro ac T
 refine gw 27 268435455 ?_; intro K hK
 refine ow_bsR (e := 9) (size := 1) [sv (((((([115, 104, 101, 101, 116, 32]) ++ (Lib.itoa s.lo ++ [120] ++ Lib.itoa s.wi)) ++ ([32])) ++ (Lib.itoa s.a0 ++ [126] ++ Lib.itoa s.a1)) ++ ([32])) ++ (Lib.itoa s.c0 ++ [126] ++ Lib.itoa s.c1))] M T rfl rfl rfl rfl (.cons (T.e 0 rfl) .nil) (fun _ => by kernel_rfl) rfl rfl rfl ?_; clear M T; intro g2 wc ac M T
 refine Zso hK _ _ (M.mask [false, true] rfl) ?_; clear hK K
 refine gq T 28 536870911 rfl (fun _ _ _ _ _ => (Zra rfl (T.e 0 rfl))) ?_; clear T ac; intro ac T
 refine Zgd (by kernel_rfl) ?_
 replace T := T.pick [0, 29, 30] rfl
 refine Zns ?_
 refine Zsr ?_
 refine Zg4 (v1 := (.pointer (some ⟨g1, 6, none⟩))) T (Zq (Zrf (off := 6) rfl (T.e 2 rfl) (fun _ _ _ => by kernel_rfl))) rfl (Zo M 1 0 rfl rfl rfl rfl) rfl (Zl Tryz.underlying47 0 rfl rfl) rfl (fun _ T => Zq (Zrm rfl evc)) rfl ?_; clear T ac; intro ac T
 refine wpList_nil ?_
 replace T := T.pick [0, 1, 2, 4, 5] rfl
 replace M := M.mask [true, false] rfl
 refine nm_then ?_
 refine wp_block ?_
 have e8 : [sv (((((([115, 104, 101, 101, 116, 32]) ++ (Lib.itoa s.lo ++ [120] ++ Lib.itoa s.wi)) ++ ([32])) ++ (Lib.itoa s.a0 ++ [126] ++ Lib.itoa s.a1)) ++ ([32])) ++ (Lib.itoa s.c0 ++ [126] ++ Lib.itoa s.c1))] = st (rowsT s 0) := by show _ = [sv (headT s)]; simp [headT, sheetW]
 rw [e8] at M
 clear e8
 replace M := M.perm [0] rfl rfl
 obtain ⟨A9, I9, hA9, hsl9, M⟩ : ∃ A I, A = some (⟨g2, 0, none⟩ : Addr) ∧ Sl 9 1 (.slice A (0 + 1) 1) (0 + 1) (st (rowsT s 0)) I ∧ Mem w noEx wc ([] ++ I) := ⟨_, _, rfl, Sl.row _ _ _ _ _ _, M⟩
 rw [← hA9] at T
 replace M : Mem w noEx wc (I9) := M
 refine wp_loop_n (fun mz ac wc => ∃ (k : Nat) (At : Option Addr) (ct : Nat) (It : List (Nat × BA)), mz = s.ps.length - k ∧ (k ≤ s.ps.length) ∧ (Sl 9 1 (.slice At (k + 1) ct) (k + 1) (st (rowsT s k)) It) ∧ Tm ac 76 [(5, .func (.func 67) #[] #[]), (6, .slice At (k + 1) ct), (44, .slice A s.ps.length c), (45, .int .i64 ((s.ps.length : Nat) : Int)), (46, .int .i64 (k : Int))] ∧ Mem w noEx wc (It)) ?_ ?_
 ·exact ⟨_, 0, A9, 1, I9, rfl, (Nat.zero_le _), hsl9, T.pick [4, 3, 2, 1, 0] rfl, M⟩
 clear T M
 rintro mz ac wc ⟨k, At, ct, It, hmm1, hk, hsl, T, M⟩
 refine Zsr ?_
 refine lq T (rn_lss rfl (T.e 4 rfl) (T.e 3 rfl)) ?_; clear T ac; intro ac T
 refine Zln ?_
 refine wp_seq ?_
 refine wp_if (T.e 0 rfl) ?_ ?_
 ·intro h2
  obtain ⟨p, hkp, -⟩ := pc_next (l := s.ps) (k := k) (by omega)
  have hpg := hsn.ps p (List.mem_of_getElem? hkp)
  obtain ⟨⟨hp1, hp2⟩, ⟨hp3, hp4⟩, hp5, hp6⟩ := hpg
  have hpg := hsn.ps p (List.mem_of_getElem? hkp)
  refine Zsk ?_
  refine wp_seq ?_
  refine wp_block ?_
  refine Zsr ?_
  refine Zg2 (v2 := (.agg #[.int .i64 p.l, .int .i64 p.w, .bool p.gr, .int .i64 p.pa])) T (Zq (Zri (size := 4) k rfl (T.e 3 rfl) (T.e 5 rfl) ⟨_, Tryz.underlying47, by kernel_rfl⟩ rfl (by omega) (SA.at0 (by omega)))) rfl (fun _ T => Zq (rn_rowat (Sp.pcR SA M (Zz9 _) hkp) rfl (T.e 0 rfl) rfl)) rfl ?_; clear T ac; intro ac T
  refine Zl2 ?_
  refine Zoa M T rfl rfl rfl rfl ?_; clear M T; intro g3 wc ac M T
  refine Zl2 ?_
  refine Zos M T rfl rfl (T.e 0 rfl) (T.e 1 rfl) rfl .head rfl (by simp) rfl (by kernel_rfl) ?_; clear M T; intro wc ac M T
  replace T := T.pick [0, 4, 5, 6, 7, 8] rfl
  refine Zln ?_
  refine Zsr ?_
  refine lq T (Zra rfl evc) ?_; clear T ac; intro ac T
  refine Zln ?_
  refine cut_seq (fun ac wc => ∃ (wd : List UInt8), (wd = wordT p.gr) ∧ (wd.length ≤ 5) ∧ Tm ac 76 [(5, .func (.func 67) #[] #[]), (6, .slice At (k + 1) ct), (8, .pointer (some ⟨g3, 0, none⟩)), (9, sv wd), (44, .slice A s.ps.length c), (45, .int .i64 ((s.ps.length : Nat) : Int)), (46, .int .i64 (k : Int))] ∧ Mem w noEx wc ((g3, .cells [.int .i64 p.l, .int .i64 p.w, .bool p.gr, .int .i64 p.pa]) :: It)) ?_ ?_
  ·refine Zsr ?_
   refine Zg2 (v1 := (.pointer (some ⟨g3, 2, none⟩))) T (Zq (Zrf (off := 2) rfl (T.e 1 rfl) (fun _ _ _ => by kernel_rfl))) rfl (Zo M 0 0 rfl rfl rfl rfl) rfl ?_; clear T ac; intro ac T
   replace T := T.pick [0, 2, 3, 4, 5, 6, 7, 8] rfl
   refine Zln ?_
   refine wp_cond_split (T.e 0 rfl) ?_ ?_
   ·intro h3
    refine wp_region_lit ?_
    refine l_q (v := (sv ([103, 114, 97, 105, 110]))) (T.pick [0, 2, 3, 4, 5, 6, 7] rfl) rfl rfl rfl rfl (Zra rfl evc) ?_; clear T ac; intro ac T
    refine wpList_nil ?_
    replace T := T.pick [0, 2, 3, 4, 5, 6, 7] rfl
    exact ⟨[103, 114, 97, 105, 110], (by unfold wordT; rw [h3]; rfl), (by decide), T.pick [2, 3, 1, 0, 4, 5, 6] rfl, M⟩
   intro h3
   refine wp_skip ?_
   exact ⟨[97, 110, 121], (by unfold wordT; rw [h3]; rfl), (by decide), T.pick [3, 4, 2, 1, 5, 6, 7] rfl, M⟩
  clear T M
  rintro ac wc ⟨wd, hwd, hwl, T, M⟩
  refine Zgs M (M.perm [0] rfl rfl) 19 (by kernel_rfl) rfl (by kernel_rfl) ?_
  clear M; intro wc M
  refine gq T 0 1 rfl (fun _ _ _ _ _ => (Zrm rfl (T.e 1 rfl))) ?_; clear T ac; intro ac T
  refine gq T 1 3 rfl (fun _ _ _ _ _ => (Zrm rfl (T.e 1 rfl))) ?_; clear T ac; intro ac T
  refine gq (v := (.pointer (some ⟨g3, 0, none⟩))) T 2 7 rfl (fun _ _ _ _ _ => (Zrf (off := 0) rfl (T.e 4 rfl) (fun _ _ _ => by kernel_rfl))) ?_; clear T ac; intro ac T
  refine gq T 3 15 rfl (fun B w' hD hl hS => (Zro (Mem.nth (show Mem w noEx w' _ from hS) 0 rfl) rfl (T.e 0 rfl) rfl)) ?_; clear T ac; intro ac T
  refine gq (v := (.pointer (some ⟨g3, 1, none⟩))) T 4 31 rfl (fun _ _ _ _ _ => (Zrf (off := 1) rfl (T.e 6 rfl) (fun _ _ _ => by kernel_rfl))) ?_; clear T ac; intro ac T
  refine gq T 5 63 rfl (fun B w' hD hl hS => (Zro (Mem.nth (show Mem w noEx w' _ from hS) 0 rfl) rfl (T.e 0 rfl) rfl)) ?_; clear T ac; intro ac T
  refine gq T 9 575 rfl (fun _ _ _ _ _ => (Zrm rfl (T.e 9 rfl))) ?_; clear T ac; intro ac T
  refine gq (v := (.pointer (some ⟨g3, 3, none⟩))) T 12 4671 rfl (fun _ _ _ _ _ => (Zrf (off := 3) rfl (T.e 9 rfl) (fun _ _ _ => by kernel_rfl))) ?_; clear T ac; intro ac T
  refine gq T 13 12863 rfl (fun B w' hD hl hS => (Zro (Mem.nth (show Mem w noEx w' _ from hS) 0 rfl) rfl (T.e 0 rfl) rfl)) ?_; clear T ac; intro ac T
  refine gw 6 12927 ?_; intro K hK
  refine Zoc (first := []) (cap := []) T rfl rfl rfl rfl (T.e 7 rfl) (.cons (T.e 5 rfl) (.cons evc (.cons (T.e 3 rfl) .nil))) Tryz.func67 rfl rfl ?_
  refine Calls.mono (wpair_any p.l p.w [120] _ ⟨by (try dsimp only); omega, by (try dsimp only); omega⟩ ⟨by (try dsimp only); omega, by (try dsimp only); omega⟩ (by simp) (hT.mem0 M)) ?_
  clear T; rintro e wc ⟨rfl, hb⟩ ac T
  replace M := M.call hb; clear hb
  have hiu5 := itoa_len (v := p.l) ⟨by (try dsimp only); omega, by (try dsimp only); omega⟩
  have hju5 := itoa_len (v := p.w) ⟨by (try dsimp only); omega, by (try dsimp only); omega⟩
  refine Zso hK _ _ (M.perm [0] rfl rfl) ?_; clear hK K
  refine gq T 7 13055 rfl (fun _ _ _ _ _ => (rn_sadd rfl evc (T.e 0 rfl) (by (try simp only [List.length_append, List.length_cons, List.length_nil]); omega))) ?_; clear T ac; intro ac T
  refine gq T 8 13311 rfl (fun _ _ _ _ _ => (rn_sadd rfl (T.e 0 rfl) evc (by (try simp only [List.length_append, List.length_cons, List.length_nil]); omega))) ?_; clear T ac; intro ac T
  refine gq T 10 14335 rfl (fun _ _ _ _ _ => (rn_sadd rfl (T.e 0 rfl) (T.e 5 rfl) (by (try simp only [List.length_append, List.length_cons, List.length_nil]); omega))) ?_; clear T ac; intro ac T
  refine gq T 11 16383 rfl (fun _ _ _ _ _ => (rn_sadd rfl (T.e 0 rfl) evc (by (try simp only [List.length_append, List.length_cons, List.length_nil]); omega))) ?_; clear T ac; intro ac T
  refine gw 14 32767 ?_; intro K hK
  refine Zoc (first := []) (cap := []) T rfl rfl rfl rfl evf (.cons (T.e 5 rfl) .nil) Tryz.func43 rfl rfl ?_
  refine Calls.mono (Itoa_any p.pa _ (by (try dsimp only); omega) (hT.mem0 M)) ?_
  clear T; rintro e wc ⟨rfl, hb⟩ ac T
  replace M := M.call hb; clear hb
  have hiu6 := itoa_len (v := p.pa) ⟨by (try dsimp only); omega, by (try dsimp only); omega⟩
  refine Zso hK _ _ (M.perm [0] rfl rfl) ?_; clear hK K
  refine gq T 15 65535 rfl (fun _ _ _ _ _ => (rn_sadd rfl (T.e 1 rfl) (T.e 0 rfl) (by (try simp only [List.length_append, List.length_cons, List.length_nil]); omega))) ?_; clear T ac; intro ac T
  refine gw 16 131071 ?_; intro K hK
  refine ow_bs (e := 9) [sv (((((([98, 108, 97, 110, 107, 32]) ++ (Lib.itoa p.l ++ [120] ++ Lib.itoa p.w)) ++ ([32])) ++ wd) ++ ([32])) ++ (Lib.itoa p.pa))] M T rfl rfl rfl rfl (.cons (T.e 0 rfl) .nil) (fun _ => by kernel_rfl) ?_; clear M T; intro g4 wc ac M T
  refine Zso hK _ _ (M.perm [1] rfl rfl) ?_; clear hK K
  refine gw 17 262143 ?_; intro K hK
  refine ow_app ([(g4, .cells [sv (((((([98, 108, 97, 110, 107, 32]) ++ (Lib.itoa p.l ++ [120] ++ Lib.itoa p.w)) ++ ([32])) ++ wd) ++ ([32])) ++ (Lib.itoa p.pa))]), (g3, .cells [.int .i64 p.l, .int .i64 p.w, .bool p.gr, .int .i64 p.pa])]) Tryz.info9 hsl M (by first | rfl | simp) T rfl rfl rfl rfl Tryz.underlying37 rfl rfl rfl (by omega) (T.e 16 rfl) (T.e 0 rfl) (Zne (i := 0) rfl) rfl rfl ?_; clear M T; intro ga1 cga1 wc ac M T
  refine Zso hK _ _ (M.mask [false, false, true] rfl) ?_; clear hK K
  refine g_q (v := (.slice (some ⟨ga1, 0, none⟩) ((k + 1) + 1) cga1)) (T := T.pick [0, 1, 2, 3, 4, 5, 6, 7, 8, 9, 10, 11, 12, 13, 14, 15, 16, 17, 18, 20, 21, 22, 23, 24] rfl) (i := 18) rfl (by kernel_rfl) (by kernel_rfl : (Zpb 19 262143).setIfInBounds 18 true = Zpb 19 524287) si_U (fun _ _ _ h => h) rfl rfl rfl rfl (fun _ _ _ _ _ => (Zra rfl (T.e 0 rfl))) ?_; clear T ac; intro ac T
  refine Zgd (by kernel_rfl) ?_
  replace T := T.pick [0, 19, 22, 23, 24] rfl
  replace M := M.mask [true, false, false] rfl
  refine Znb ?_
  refine nm_then ?_
  refine wp_region_lit ?_
  refine lq T (rn_add rfl (T.e 4 rfl) evc (by omega)) ?_; clear T ac; intro ac T
  refine l_q (v := (.int .i64 ((k : Int) + 1))) (T.pick [0, 1, 2, 3, 4] rfl) rfl rfl rfl rfl (Zrm rfl (T.e 0 rfl)) ?_; clear T ac; intro ac T
  replace T := T.pick [0, 2, 3, 4, 5] rfl
  refine Zln ?_
  have e8 : ((st (rowsT s k)) ++ [sv (((((([98, 108, 97, 110, 107, 32]) ++ (Lib.itoa p.l ++ [120] ++ Lib.itoa p.w)) ++ ([32])) ++ wd) ++ ([32])) ++ (Lib.itoa p.pa))]) = st (rowsT s (k + 1)) := by rw [rowsT_snoc hkp, ← st_snoc, hwd]; simp [partT, blankW]
  rw [e8] at M
  clear e8
  exact ⟨_, by omega, k + 1, _, _, [(ga1, .row 9 1 (k + 1 + 1) (st (rowsT s (k + 1))) cga1)], rfl, (by omega), (Sl.row _ _ _ _ _ _), T.pick [2, 1, 3, 4, 0] rfl, M.perm [0] rfl rfl⟩
 intro h2
 refine wp_exit ?_
 refine Zet ?_
 refine Zet ?_
 refine ex_hit ?_
 refine nm_then ?_
 refine Zsr ?_
 refine lq T (Zrm rfl (T.e 2 rfl)) ?_; clear T ac; intro ac T
 refine Zl2 ?_
 refine ow_bs (e := 9) [sv ([115, 97, 119, 110])] M T rfl rfl rfl rfl (.cons evc .nil) (fun _ => by kernel_rfl) ?_; clear M T; intro g5 wc ac M T
 refine Zl2 ?_
 refine ow_app ([(g5, .cells [sv ([115, 97, 119, 110])])]) Tryz.info9 hsl M (by first | rfl | simp) T rfl rfl rfl rfl Tryz.underlying37 rfl rfl rfl (by omega) (T.e 1 rfl) (T.e 0 rfl) (Zne (i := 0) rfl) rfl rfl ?_; clear M T; intro ga2 cga2 wc ac M T
 refine Zl2 ?_
 have hk9 : k = s.ps.length := by omega
 have e8 : ((st (rowsT s k)) ++ [sv ([115, 97, 119, 110])]) = st (rowsT s s.ps.length ++ [sawnW]) := by rw [← hk9, ← st_snoc]; rfl
 rw [e8] at M
 have hrl := rows_len hsn hs5
 have hrn := rowsT_len (s := s) (k := s.ps.length) (Nat.le_refl _)
 refine Zoc (first := []) (cap := []) T rfl rfl rfl rfl evf (.cons (T.e 0 rfl) (.cons evc .nil)) Tryz.func68 rfl rfl ?_
 refine Calls.mono (JoinR_any (rowsT s s.ps.length ++ [sawnW]) M (Zne (i := 0) rfl) (by rw [List.length_append, hrn, List.length_singleton]; omega) (by omega) (by rw [List.length_append, hrn, List.length_singleton]; omega)) ?_
 clear T; rintro e wc ⟨rfl, hb⟩ ac T
 replace M := M.call hb; clear hb
 refine Zg3 T (Zq (rn_sadd rfl (T.e 0 rfl) evc (by (try simp only [List.length_append, List.length_cons, List.length_nil]); omega))) rfl (Za 0 rfl rfl) rfl (Zc rfl) rfl ?_; clear T ac; intro ac T
 refine wpList_nil ?_
 replace T := T.pick [0, 1] rfl
 replace M := M.mask [true, false] rfl
 refine Znr ?_
 refine rt_2 T rfl (T.e 1 rfl) (T.e 0 rfl) ?_
 have e9 : joinC 10 (rowsT s s.ps.length ++ [sawnW]) ++ [10] = wrS s := by unfold wrS; rw [if_pos (by omega), write_is]
 have e8 : skErr s = 0 := by omega
 rw [e9, e8]
 exact ⟨rfl, M.below⟩
theorem nums_isSome {s : List UInt8} {n : Int} {ev : Value} (hok : nilB ev = true → Lib.atoiAll s = .ok n) (hno : nilB ev = false → ∀ v, Lib.atoiAll s ≠ .ok v) : (nilB ev && (decide (0 ≤ n) && (decide (((s.length : Nat) : Int) ≤ 3) && decide (Lib.itoa n = s)))) = (numS s).isSome := by
 unfold numS
 cases h : nilB ev with
 | false =>
  split
  ·rename_i v hv; exact absurd hv (hno h v)
  ·rfl
 | true =>
  rw [hok h]
  dsimp only
  have e : decide (((s.length : Nat) : Int) ≤ 3) = decide (s.length ≤ 3) := decide_eq_decide.2 (by omega)
  rw [e]
  by_cases h0 : 0 ≤ n <;> by_cases h1 : s.length ≤ 3 <;> by_cases h2 : Lib.itoa n = s <;> simp [h0, h1, h2]
theorem nums_val {s : List UInt8} {n : Int} {ev : Value} (hok : nilB ev = true → Lib.atoiAll s = .ok n) (hno : nilB ev = false → ∀ v, Lib.atoiAll s ≠ .ok v) {v : Int} (hv : numS s = some v) : n = v := by
 unfold numS at hv
 split at hv
 ·rename_i v' ha
  split at hv
  ·cases hv
   cases h : nilB ev with
   | false => exact absurd ha (hno h _)
   | true => rw [hok h] at ha; injection ha
  ·cases hv
 ·cases hv
def NumPost (f : List UInt8 → Option Int) (s : List UInt8) (w : World) (e : Ending) (w' : World) : Prop := ∃ n : Int, e = .returned (.tuple #[.int .i64 n, .bool (f s).isSome]) ∧ (∀ v, f s = some v → n = v) ∧ Below w.heap.size w w'
theorem snumber_any (s : List UInt8) (w : World) (hs : s.length ≤ 1000000) (hT : StrW w)  :
   Calls Tryz.prog 198 #[sv s] w (NumPost numS s w) := by
 refine Zpx noEx Tryz.func198 rfl 29 rfl [sv s] rfl rfl (Mem.init w _) ?_
 intro ac wc T M
 refine Zsr ?_
 refine Zg2 T (Zq (Zra rfl evc)) rfl (Zc rfl) rfl ?_; clear T ac; intro ac T
 replace T := T.pick [2] rfl
 refine Zln ?_
 refine Zsr ?_
 refine lq T (Zrm rfl (T.e 0 rfl)) ?_; clear T ac; intro ac T
 refine Zl2 ?_
 refine Zoc (first := []) (cap := []) T rfl rfl rfl rfl evf (.cons (T.e 0 rfl) .nil) Tryz.func179 rfl rfl ?_
 refine Calls.mono (Atoi_any s _ (by omega) (hT.mem0 M)) ?_
 clear T; rintro e wc ⟨nu1, evu1, rfl, hb0u1, hevu1, hoku1, hnou1, hb⟩ ac T
 replace M := M.call hb; clear hb
 refine Zg5 T (Zq (Zrm rfl (T.e 0 rfl))) rfl (Ze 0 rfl rfl rfl) rfl (Ze 1 rfl rfl rfl) rfl (Za 1 rfl rfl) rfl (Za 1 rfl rfl) rfl ?_; clear T ac; intro ac T
 replace T := T.pick [0, 1, 7] rfl
 refine Zln ?_
 refine cut_seq (fun ac wc => Tm ac 29 [(2, .int .i64 nu1), (3, .bool ((nilB evu1) && ((decide (0 ≤ nu1)) && ((decide (((s.length : Nat) : Int) ≤ 3)) && (decide ((Lib.itoa nu1) = s))))))] ∧ Mem w noEx wc []) ?_ ?_
 ·refine wp_region_lit ?_
  refine Zg4 T (Zq (Zrm rfl (T.e 1 rfl))) rfl (Zm 1 rfl rfl) rfl (fun _ T => Zq (rn_ifnil rfl (T.e 0 rfl) hevu1)) rfl (Zm 0 rfl rfl) rfl ?_; clear T ac; intro ac T
  rcases Bool.eq_false_or_eq_true (nilB evu1) with h1 | h1
  ·refine Zg4 T (Zw (Zwy rfl rfl (T.e 0 rfl) h1) (Zrm rfl (T.e 5 rfl))) rfl (fun _ T => Zw (Zwy rfl rfl (T.e 1 rfl) h1) (rn_geq rfl (T.e 0 rfl) evc)) rfl (fun _ T => Zq (Zr1 rfl (T.e 2 rfl) h1 (T.e 0 rfl))) rfl (Zm 0 rfl rfl) rfl ?_; clear T ac; intro ac T
   rcases Bool.eq_false_or_eq_true (decide (0 ≤ nu1)) with h2 | h2
   ·replace h2 := of_decide_eq_true h2
    refine Zg5 T (Zw (Zwy rfl rfl (T.e 0 rfl) (Zdt h2)) (Zrm rfl (T.e 10 rfl))) rfl (fun _ T => Zw (Zwy rfl rfl (T.e 1 rfl) (Zdt h2)) (rn_slen rfl Tryz.underlying9 (T.e 0 rfl))) rfl (fun _ T => Zw (Zwy rfl rfl (T.e 2 rfl) (Zdt h2)) (rn_leq rfl (T.e 0 rfl) evc)) rfl (fun _ T => Zq (Zr1 rfl (T.e 3 rfl) (Zdt h2) (T.e 0 rfl))) rfl (Zm 0 rfl rfl) rfl ?_; clear T ac; intro ac T
    rcases Bool.eq_false_or_eq_true (decide (((s.length : Nat) : Int) ≤ 3)) with h3 | h3
    ·replace h3 := of_decide_eq_true h3
     refine lw T (Zwy rfl rfl (T.e 0 rfl) (Zdt h3)) (Zrm rfl (T.e 14 rfl)) ?_; clear T ac; intro ac T
     refine l_w (Zwy rfl rfl (T.e 1 rfl) (Zdt h3)) ?_; intro K hK
     refine Zoc (first := []) (cap := []) T rfl rfl rfl rfl evf (.cons (T.e 0 rfl) .nil) Tryz.func43 rfl rfl ?_
     refine Calls.mono (Itoa_any nu1 _ hb0u1 (hT.mem0 M)) ?_
     clear T; rintro e wc ⟨rfl, hb⟩ ac T
     replace M := M.call hb; clear hb
     refine Zso hK _ _ ?_; clear hK K
     refine Zg5 T (Zw (Zwy rfl rfl (T.e 2 rfl) (Zdt h3)) (Zrm rfl (T.e 17 rfl))) rfl (fun _ T => Zw (Zwy rfl rfl (T.e 3 rfl) (Zdt h3)) (rn_seql rfl (T.e 1 rfl) (T.e 0 rfl))) rfl (fun _ T => Zq (Zr1 rfl (T.e 4 rfl) (Zdt h3) (T.e 0 rfl))) rfl (Za 17 rfl rfl) rfl (Za 1 rfl rfl) rfl ?_; clear T ac; intro ac T
     refine wpList_nil ?_
     replace T := T.pick [0, 1] rfl
     exact ⟨(T.pick (E' := [(2, .int .i64 nu1), (3, .bool (decide ((Lib.itoa nu1) = s)))]) [1, 0] rfl).as (by (try rw [show (nilB evu1) = true from h1]); (try rw [show (decide (0 ≤ nu1)) = true from (Zdt h2)]); (try rw [show (decide (((s.length : Nat) : Int) ≤ 3)) = true from (Zdt h3)]); (try rfl)), M.mask [] rfl⟩
    replace h3 := of_decide_eq_false h3
    refine Zg7 T (Zp (Zwn rfl rfl (T.e 0 rfl) (Zdf h3))) rfl (fun _ T => Zp (Zwn rfl rfl (T.e 1 rfl) (Zdf h3))) rfl (fun _ T => Zp (Zwn rfl rfl (T.e 2 rfl) (Zdf h3))) rfl (fun _ T => Zp (Zwn rfl rfl (T.e 3 rfl) (Zdf h3))) rfl (fun _ T => Zq (Zr0 rfl (T.e 4 rfl) (Zdf h3) evc)) rfl (Za 17 rfl rfl) rfl (Za 1 rfl rfl) rfl ?_; clear T ac; intro ac T
    refine wpList_nil ?_
    replace T := T.pick [0, 1] rfl
    exact ⟨(T.pick (E' := [(2, .int .i64 nu1), (3, .bool false)]) [1, 0] rfl).as (by (try rw [show (nilB evu1) = true from h1]); (try rw [show (decide (0 ≤ nu1)) = true from (Zdt h2)]); (try rw [show (decide (((s.length : Nat) : Int) ≤ 3)) = false from (Zdf h3)]); (try rfl)), M.mask [] rfl⟩
   replace h2 := of_decide_eq_false h2
   refine Zg8 T (Zp (Zwn rfl rfl (T.e 0 rfl) (Zdf h2))) rfl (fun _ T => Zp (Zwn rfl rfl (T.e 1 rfl) (Zdf h2))) rfl (fun _ T => Zp (Zwn rfl rfl (T.e 2 rfl) (Zdf h2))) rfl (fun _ T => Zq (Zr0 rfl (T.e 3 rfl) (Zdf h2) evc)) rfl (Zm 0 rfl rfl) rfl (fun _ T => Zp (Zwn rfl rfl (T.e 0 rfl) rfl)) rfl (fun _ T => Zp (Zwn rfl rfl (T.e 1 rfl) rfl)) rfl (fun _ T => Zp (Zwn rfl rfl (T.e 2 rfl) rfl)) rfl ?_; clear T ac; intro ac T
   refine Zg4 T (Zp (Zwn rfl rfl (T.e 3 rfl) rfl)) rfl (fun _ T => Zq (Zr0 rfl (T.e 4 rfl) rfl evc)) rfl (Za 17 rfl rfl) rfl (Za 1 rfl rfl) rfl ?_; clear T ac; intro ac T
   refine wpList_nil ?_
   replace T := T.pick [0, 1] rfl
   exact ⟨(T.pick (E' := [(2, .int .i64 nu1), (3, .bool false)]) [1, 0] rfl).as (by (try rw [show (nilB evu1) = true from h1]); (try rw [show (decide (0 ≤ nu1)) = false from (Zdf h2)]); (try rfl)), M.mask [] rfl⟩
  refine Zg8 T (Zp (Zwn rfl rfl (T.e 0 rfl) h1)) rfl (fun _ T => Zp (Zwn rfl rfl (T.e 1 rfl) h1)) rfl (fun _ T => Zq (Zr0 rfl (T.e 2 rfl) h1 evc)) rfl (Zm 0 rfl rfl) rfl (fun _ T => Zp (Zwn rfl rfl (T.e 0 rfl) rfl)) rfl (fun _ T => Zp (Zwn rfl rfl (T.e 1 rfl) rfl)) rfl (fun _ T => Zp (Zwn rfl rfl (T.e 2 rfl) rfl)) rfl (fun _ T => Zq (Zr0 rfl (T.e 3 rfl) rfl evc)) rfl ?_; clear T ac; intro ac T
  refine Zg8 T (Zq (Zrm rfl (T.e 0 rfl))) rfl (fun _ T => Zp (Zwn rfl rfl (T.e 0 rfl) rfl)) rfl (fun _ T => Zp (Zwn rfl rfl (T.e 1 rfl) rfl)) rfl (fun _ T => Zp (Zwn rfl rfl (T.e 2 rfl) rfl)) rfl (fun _ T => Zp (Zwn rfl rfl (T.e 3 rfl) rfl)) rfl (fun _ T => Zq (Zr0 rfl (T.e 4 rfl) rfl evc)) rfl (Za 17 rfl rfl) rfl (Za 1 rfl rfl) rfl ?_; clear T ac; intro ac T
  refine wpList_nil ?_
  replace T := T.pick [0, 1] rfl
  exact ⟨(T.pick (E' := [(2, .int .i64 nu1), (3, .bool false)]) [1, 0] rfl).as (by (try rw [show (nilB evu1) = false from h1]); (try rfl)), M.mask [] rfl⟩
 clear T M
 rintro ac wc ⟨T, M⟩
 refine wp_ret ?_
 refine rt_2 T rfl (T.e 0 rfl) (T.e 1 rfl) ?_
 have e9 : ((nilB evu1) && ((decide (0 ≤ nu1)) && ((decide (((s.length : Nat) : Int) ≤ 3)) && (decide ((Lib.itoa nu1) = s))))) = (numS s).isSome := by rw [← nums_isSome hoku1 hnou1]
 exact ⟨nu1, by rw [← e9], fun v hv => nums_val hoku1 hnou1 hv, M.below⟩
theorem spl_fin {c : UInt8} : ∀ (s : List UInt8) (f : Nat), f ≤ s.length → (∀ i, f ≤ i → i < s.length → s[i]? ≠ some c) → spl c (s.drop f) = [s.drop f] := by
 intro s f hf h
 rcases cut_spl c (s.drop f) with ⟨h1, h2, h3⟩ | ⟨a, r, h1, h2, h3, h4⟩
 ·exact h3
 ·have h5 : (s.drop f)[a.length]? = some c := by rw [h2]; simp
  rw [List.getElem?_drop] at h5
  exact absurd h5 (h (f + a.length) (by omega) (List.getElem?_eq_some_iff.1 h5).1)
theorem spl_cut {c : UInt8} {s : List UInt8} {f i : Nat} (hi : s[i]? = some c) (hf : f ≤ i) (h : ∀ q, f ≤ q → q < i → s[q]? ≠ some c) : spl c (s.drop f) = cutS s f i :: spl c (s.drop (i + 1)) := by
 have hl := (List.getElem?_eq_some_iff.1 hi).1
 have e : s.drop f = cutS s f i ++ c :: s.drop (i + 1) := by
  unfold cutS
  have h1 : (s.drop f).drop (i - f) = c :: s.drop (i + 1) := by
   rw [List.drop_drop, show f + (i - f) = i by omega, List.drop_eq_getElem_cons hl]
   congr 1
   rw [List.getElem?_eq_getElem hl] at hi
   injection hi
  rw [← h1, List.take_append_drop]
 rw [e]
 refine spl_app fun hm => ?_
 obtain ⟨q, hq, hqc⟩ := List.mem_iff_getElem.1 hm
 have hq2 : q < i - f := by
  unfold cutS at hq
  rw [List.length_take, List.length_drop] at hq
  omega
 have h2 : (cutS s f i)[q]? = some c := by rw [List.getElem?_eq_getElem hq, hqc]
 unfold cutS at h2
 rw [List.getElem?_take_of_lt hq2, List.getElem?_drop] at h2
 exact h (f + q) (by omega) (by omega) h2
theorem cutS_end {s : List UInt8} {f : Nat} : cutS s f s.length = s.drop f := by
 unfold cutS
 exact List.take_of_length_le (by rw [List.length_drop]; exact Nat.le_refl _)
def SplPosY (l : List (List UInt8)) (w : World) (e : Ending) (w' : World) : Prop := ∃ (A : Option Addr) (c : Nat) (I : List (Nat × BA)), e = .returned (.slice A l.length c) ∧ Sl 9 1 (.slice A l.length c) l.length (st l) I ∧ Mem w noEx w' I
def SpI (c : UInt8) (s : List UInt8) (f i : Nat) (ol : List (List UInt8)) : Prop := (i ≤ s.length → f ≤ i ∧ spl c s = ol ++ spl c (s.drop f) ∧ ∀ q, f ≤ q → q < i → s[q]? ≠ some c) ∧ (i = s.length + 1 → ol = spl c s)
theorem SpI.start (c : UInt8) (s : List UInt8) : SpI c s 0 0 [] := ⟨fun _ => ⟨Nat.le_refl _, rfl, fun q _ h => absurd h (by omega)⟩, fun h => by omega⟩
theorem SpI.hit {c : UInt8} {s : List UInt8} {f i : Nat} {ol : List (List UInt8)} (H : SpI c s f i ol) (hi : i ≤ s.length) (hc : i = s.length ∨ s[i]? = some c) : SpI c s (i + 1) (i + 1) (ol ++ [cutS s f i]) := by
 obtain ⟨h1, h2, h3⟩ := H.1 hi
 refine ⟨fun hl => ⟨Nat.le_refl _, ?_, fun q h4 h5 => absurd h4 (by omega)⟩, fun he => ?_⟩
 ·rcases hc with hc | hc
  ·omega
  ·rw [h2, spl_cut hc h1 h3]
   simp
 ·have hi2 : i = s.length := by omega
  subst hi2
  rw [h2, cutS_end, spl_fin s f h1 h3]
theorem SpI.skip {c : UInt8} {s : List UInt8} {f i : Nat} {ol : List (List UInt8)} (H : SpI c s f i ol) (hi : i < s.length) (hc : s[i]? ≠ some c) : SpI c s f (i + 1) ol := by
 obtain ⟨h1, h2, h3⟩ := H.1 (by omega)
 refine ⟨fun _ => ⟨by omega, h2, fun q h4 h5 => ?_⟩, fun he => by omega⟩
 rcases Nat.lt_or_ge q i with h6 | h6
 ·exact h3 q h4 h6
 ·rw [show q = i by omega]
  exact hc
theorem byte_at {s : List UInt8} {i : Nat} {b c : UInt8} (h : s[i]? = some b) (e : ((b.toNat : Nat) : Int) = ((c.toNat : Nat) : Int)) : s[i]? = some c := by
 rw [h, UInt8.toNat_inj.1 (Int.ofNat.inj e)]
theorem byte_no {s : List UInt8} {i : Nat} {b c : UInt8} (h : s[i]? = some b) (e : ¬ ((b.toNat : Nat) : Int) = ((c.toNat : Nat) : Int)) : s[i]? ≠ some c := by
 rw [h]
 intro h2
 injection h2 with h2
 exact e (by rw [h2])
theorem byte_or {s : List UInt8} {i : Nat} {b c : UInt8} (h : i < s.length → s[i]? = some b) (hi : i ≤ s.length) (e : (decide ((i : Int) = ((s.length : Nat) : Int)) || decide (((b.toNat : Nat) : Int) = ((c.toNat : Nat) : Int))) = true) : i = s.length ∨ s[i]? = some c := by
 rw [Bool.or_eq_true, decide_eq_true_eq, decide_eq_true_eq] at e
 rcases e with e | e
 ·exact .inl (by omega)
 ·rcases Nat.lt_or_ge i s.length with h1 | h1
  ·exact .inr (byte_at (h h1) e)
  ·exact .inl (by omega)
theorem byte_nor {s : List UInt8} {i : Nat} {b c : UInt8} (h : i < s.length → s[i]? = some b) (hi : i ≤ s.length) (e : (decide ((i : Int) = ((s.length : Nat) : Int)) || decide (((b.toNat : Nat) : Int) = ((c.toNat : Nat) : Int))) = false) : i < s.length ∧ s[i]? ≠ some c := by
 rw [Bool.or_eq_false_iff, decide_eq_false_iff_not, decide_eq_false_iff_not] at e
 have h1 : i < s.length := by have := e.1; omega
 exact ⟨h1, byte_no (h h1) e.2⟩
theorem rsplit_any (s : List UInt8) (c : UInt8) (w : World) (hs : s.length ≤ 900000) :
   Calls Tryz.prog 74 #[sv s, .int .u8 ((c.toNat : Nat) : Int)] w (SplPosY (spl c s) w) := by
 refine Zpx noEx Tryz.func74 rfl 35 rfl [sv s, .int .u8 ((c.toNat : Nat) : Int)] rfl rfl (Mem.init w _) ?_
 intro ac wc T M
 refine Zsr ?_
 refine lq T (Zra rfl evc) ?_; clear T ac; intro ac T
 replace T := T.pick [1, 2] rfl
 refine Zln ?_
 refine Zsr ?_
 refine lq T (Zra rfl evc) ?_; clear T ac; intro ac T
 refine Zln ?_
 refine Zsr ?_
 refine lq T (Zra rfl evc) ?_; clear T ac; intro ac T
 refine Zln ?_
 refine wp_seq ?_
 refine Zsr ?_
 refine lq T (Zra rfl evc) ?_; clear T ac; intro ac T
 refine Zln ?_
 refine wp_block ?_
 refine wp_loop_n (fun mz ac wc => ∃ (i f : Nat) (ol : List (List UInt8)) (At : Option Addr) (ct : Nat) (It : List (Nat × BA)), mz = s.length + 1 - i ∧ (i ≤ s.length + 1) ∧ (SpI c s f i ol) ∧ (Sl 9 1 (.slice At ol.length ct) ol.length (st ol) It) ∧ (ol.length ≤ i) ∧ Tm ac 35 [(0, sv s), (1, .int .u8 ((c.toNat : Nat) : Int)), (5, .slice At ol.length ct), (6, .int .i64 (f : Int)), (7, .int .i64 (i : Int))] ∧ Mem w noEx wc (It)) ?_ ?_
 ·exact ⟨_, 0, 0, [], none, 0, [], rfl, (Nat.zero_le _), (SpI.start c s), (Sl.nil _ _), (Nat.zero_le _), T.pick [3, 4, 2, 1, 0] rfl, M.mask [] rfl⟩
 clear T M
 rintro mz ac wc ⟨i, f, ol, At, ct, It, hmm1, hi, H, hsl, hol, T, M⟩
 refine wp_seq ?_
 refine Zsr ?_
 refine Zg4 T (Zq (Zrm rfl (T.e 4 rfl))) rfl (Zm 1 rfl rfl) rfl (fun _ T => Zq (rn_slen rfl Tryz.underlying9 (T.e 0 rfl))) rfl (fun _ T => Zq (rn_leq rfl (T.e 2 rfl) (T.e 0 rfl))) rfl ?_; clear T ac; intro ac T
 replace T := T.pick [0, 4, 5, 6, 7, 8] rfl
 refine Zln ?_
 refine wp_if (T.e 0 rfl) ?_ ?_
 ·intro h1
  have hfi := (H.1 (by omega)).1
  obtain ⟨b, hkb⟩ : ∃ b : UInt8, i < s.length → s[i]? = some b := by
    by_cases hq : i < s.length
    · exact ⟨_, fun _ => List.getElem?_eq_getElem hq⟩
    · exact ⟨0, fun h => absurd h hq⟩
  refine Zsk ?_
  refine wp_seq ?_
  refine wp_block ?_
  refine cut_seq (fun ac wc => Tm ac 35 [(0, sv s), (1, .int .u8 ((c.toNat : Nat) : Int)), (5, .slice At ol.length ct), (6, .int .i64 (f : Int)), (7, .int .i64 (i : Int)), (24, .bool ((decide ((i : Int) = ((s.length : Nat) : Int))) || (decide (((b.toNat : Nat) : Int) = ((c.toNat : Nat) : Int)))))] ∧ Mem w noEx wc (It)) ?_ ?_
  ·refine wp_region_lit ?_
   refine Zg5 T (Zq (Zrm rfl (T.e 5 rfl))) rfl (Zm 2 rfl rfl) rfl (fun _ T => Zq (rn_slen rfl Tryz.underlying9 (T.e 0 rfl))) rfl (fun _ T => Zq (rn_eql rfl (T.e 2 rfl) (T.e 0 rfl))) rfl (Zm 0 rfl rfl) rfl ?_; clear T ac; intro ac T
   rcases Bool.eq_false_or_eq_true (decide ((i : Int) = ((s.length : Nat) : Int))) with h2 | h2
   ·replace h2 := of_decide_eq_true h2
    refine Zg6 T (Zp (Zwn rfl rfl (T.e 0 rfl) (Zdt h2))) rfl (fun _ T => Zp (Zwn rfl rfl (T.e 1 rfl) (Zdt h2))) rfl (fun _ T => Zp (Zwn rfl rfl (T.e 2 rfl) (Zdt h2))) rfl (fun _ T => Zp (Zwn rfl rfl (T.e 3 rfl) (Zdt h2))) rfl (fun _ T => Zp (Zwn rfl rfl (T.e 4 rfl) (Zdt h2))) rfl (fun _ T => Zq (Zr1 rfl (T.e 5 rfl) (Zdt h2) evc)) rfl ?_; clear T ac; intro ac T
    refine wpList_nil ?_
    replace T := T.pick [0, 1, 2, 3, 4, 5, 12, 13, 14, 15, 16] rfl
    exact ⟨(T.pick (E' := [(0, sv s), (1, .int .u8 ((c.toNat : Nat) : Int)), (5, .slice At ol.length ct), (6, .int .i64 (f : Int)), (7, .int .i64 (i : Int)), (24, .bool true)]) [6, 7, 8, 9, 10, 0] rfl).as (by (try rw [show (decide ((i : Int) = ((s.length : Nat) : Int))) = true from (Zdt h2)]); (try rfl)), M.mask [] rfl⟩
   replace h2 := of_decide_eq_false h2
   refine Zg6 T (Zw (Zwy rfl rfl (T.e 0 rfl) (Zdf h2)) (Zrm rfl (T.e 6 rfl))) rfl (fun _ T => Zw (Zwy rfl rfl (T.e 1 rfl) (Zdf h2)) (Zrm rfl (T.e 11 rfl))) rfl (fun _ T => Zw (Zwy rfl rfl (T.e 2 rfl) (Zdf h2)) (rn_sidx i rfl Tryz.underlying9 (T.e 1 rfl) (T.e 0 rfl) rfl (hkb (by omega)))) rfl (fun _ T => Zw (Zwy rfl rfl (T.e 3 rfl) (Zdf h2)) (Zrm rfl (T.e 10 rfl))) rfl (fun _ T => Zw (Zwy rfl rfl (T.e 4 rfl) (Zdf h2)) (rn_eql rfl (T.e 1 rfl) (T.e 0 rfl))) rfl (fun _ T => Zq (Zr0 rfl (T.e 5 rfl) (Zdf h2) (T.e 0 rfl))) rfl ?_; clear T ac; intro ac T
   refine wpList_nil ?_
   replace T := T.pick [0, 1, 2, 3, 4, 5, 12, 13, 14, 15, 16] rfl
   exact ⟨(T.pick (E' := [(0, sv s), (1, .int .u8 ((c.toNat : Nat) : Int)), (5, .slice At ol.length ct), (6, .int .i64 (f : Int)), (7, .int .i64 (i : Int)), (24, .bool (decide (((b.toNat : Nat) : Int) = ((c.toNat : Nat) : Int))))]) [6, 7, 8, 9, 10, 0] rfl).as (by (try rw [show (decide ((i : Int) = ((s.length : Nat) : Int))) = false from (Zdf h2)]); (try rfl)), M.mask [] rfl⟩
  clear T M
  rintro ac wc ⟨T, M⟩
  refine wp_cond_split (T.e 5 rfl) ?_ ?_
  ·intro h3
   (have h3' := h3; try simp only [Zb1, Zb2, Zb3, Zb4, Zb5, Zb6, Zb7] at h3')
   refine Zsr ?_
   refine Zg5 T (Zq (Zrm rfl (T.e 2 rfl))) rfl (Zm 1 rfl rfl) rfl (Zm 5 rfl rfl) rfl (Zm 7 rfl rfl) rfl (fun _ T => Zq (rn_sslice (p := f) (q := i) rfl Tryz.underlying9 (T.e 2 rfl) (T.e 1 rfl) (T.e 0 rfl) (by omega) (by omega))) rfl ?_; clear T ac; intro ac T
   refine Zl2 ?_
   refine ow_bs (e := 9) [sv (cutS s f i)] M T rfl rfl rfl rfl (.cons (T.e 0 rfl) .nil) (fun _ => by kernel_rfl) ?_; clear M T; intro g1 wc ac M T
   refine Zl2 ?_
   refine ow_app ([(g1, .cells [sv (cutS s f i)])]) Tryz.info9 hsl M (by first | rfl | simp) T rfl rfl rfl rfl Tryz.underlying37 rfl rfl rfl (by omega) (T.e 5 rfl) (T.e 0 rfl) (Zne (i := 0) rfl) rfl rfl ?_; clear M T; intro ga1 cga1 wc ac M T
   refine l_q (v := (.slice (some ⟨ga1, 0, none⟩) (ol.length + 1) cga1)) (T.pick [0, 1, 2, 3, 4, 5, 6, 7, 8, 10, 11, 12] rfl) rfl rfl rfl rfl (Zra rfl (T.e 0 rfl)) ?_; clear T ac; intro ac T
   refine wpList_nil ?_
   replace T := T.pick [0, 8, 9, 11] rfl
   replace M := M.mask [true, false] rfl
   refine nm_then ?_
   refine wp_region_lit ?_
   refine Zg3 T (Zq (Zrm rfl (T.e 3 rfl))) rfl (fun _ T => Zq (rn_add rfl (T.e 0 rfl) evc (by omega))) rfl (Za 0 rfl rfl) rfl ?_; clear T ac; intro ac T
   refine wpList_nil ?_
   replace T := T.pick [0, 3, 4, 5, 6] rfl
   refine Znb ?_
   refine nm_then ?_
   refine wp_region_lit ?_
   refine Zg2 T (Zq (Zrm rfl (T.e 4 rfl))) rfl (fun _ T => Zq (rn_add rfl (T.e 0 rfl) evc (by omega))) rfl ?_; clear T ac; intro ac T
   refine l_q (v := (.int .i64 ((i : Int) + 1))) (T.pick [0, 1, 2, 3, 4, 5] rfl) rfl rfl rfl rfl (Zra rfl (T.e 0 rfl)) ?_; clear T ac; intro ac T
   replace T := T.pick [0, 3, 4, 5, 6] rfl
   refine Zln ?_
   have e9 : ol.length + 1 = (ol ++ [cutS s f i]).length := by simp
   have e8 : ((st ol) ++ [sv (cutS s f i)]) = st (ol ++ [cutS s f i]) := by rw [← st_snoc]
   rw [e9, e8] at M
   rw [e9] at T
   clear e9 e8
   exact ⟨_, by omega, i + 1, i + 1, (ol ++ [cutS s f i]), _, _, [(ga1, .row 9 1 (ol ++ [cutS s f i]).length (st (ol ++ [cutS s f i])) cga1)], rfl, (by omega), (H.hit (by omega) (byte_or hkb (by omega) (by assumption))), (Sl.row _ _ _ _ _ _), (by simp only [List.length_append, List.length_cons, List.length_nil]; omega), T.pick [3, 4, 2, 1, 0] rfl, M.perm [0] rfl rfl⟩
  intro h3
  (have h3' := h3; try simp only [Zb1, Zb2, Zb3, Zb4, Zb5, Zb6, Zb7] at h3')
  refine wp_skip ?_
  refine Znb ?_
  refine nm_then ?_
  refine wp_region_lit ?_
  refine Zg2 T (Zq (Zrm rfl (T.e 4 rfl))) rfl (fun _ T => Zq (rn_add rfl (T.e 0 rfl) evc (by omega))) rfl ?_; clear T ac; intro ac T
  refine l_q (v := (.int .i64 ((i : Int) + 1))) (T.pick [0, 1, 2, 3, 4, 5, 7] rfl) rfl rfl rfl rfl (Zra rfl (T.e 0 rfl)) ?_; clear T ac; intro ac T
  replace T := T.pick [0, 3, 4, 5, 6] rfl
  refine Zln ?_
  exact ⟨_, by omega, i + 1, f, ol, _, _, It, rfl, (by have := (byte_nor hkb (by omega) (by assumption)).1; omega), (H.skip (byte_nor hkb (by omega) (by assumption)).1 (byte_nor hkb (by omega) (by assumption)).2), hsl, (by omega), T.pick [1, 2, 3, 4, 0] rfl, M⟩
 intro h1
 refine wp_exit ?_
 refine Zet ?_
 refine Zet ?_
 refine ex_hit ?_
 refine nm_then ?_
 refine Zsr ?_
 refine Zg2 T (Zq (Zrm rfl (T.e 3 rfl))) rfl (Za 0 rfl rfl) rfl ?_; clear T ac; intro ac T
 replace T := T.pick [0] rfl
 refine Zln ?_
 refine wp_ret ?_
 refine rt_1 T rfl (T.e 0 rfl) ?_
 have e9 : ol = spl c s := H.2 (by omega)
 rw [← e9]
 exact ⟨At, ct, It, rfl, hsl, M⟩
theorem byte_get {s : List UInt8} {i : Nat} : ∃ b : UInt8, i < s.length → s[i]? = some b := by
 by_cases hq : i < s.length
 · exact ⟨_, fun _ => List.getElem?_eq_getElem hq⟩
 · exact ⟨0, fun h => absurd h hq⟩
theorem digR_step {n : Nat} {w : List UInt8} {k : Nat} {b : UInt8} (h : w[k]? = some b) : digR n (w.drop k) = if b.toNat < 48 ∨ 57 < b.toNat then none else digR (10 * n + (b.toNat - 48)) (w.drop (k + 1)) := by
 rw [List.drop_eq_getElem_cons (List.getElem?_eq_some_iff.1 h).1, (List.getElem?_eq_some_iff.1 h).2]
 rfl
theorem hd_iff {w : List UInt8} {d : UInt8} (h : 0 < w.length → w[0]? = some d) : w.head? = some 48 ↔ 0 < w.length ∧ ((d.toNat : Nat) : Int) = 48 := by
 cases w with
 | nil => simp
 | cons a r =>
  have h1 := h (by simp)
  simp only [List.getElem?_cons_zero, Option.some.injEq] at h1
  subst h1
  have e : (((a.toNat : Nat) : Int) = 48) ↔ a = 48 := ⟨fun h => UInt8.toNat_inj.1 (Int.ofNat.inj h), fun h => by rw [h]; rfl⟩
  simp [e]
theorem magF_bad {w : List UInt8} {d : UInt8} (h : 0 < w.length → w[0]? = some d) (e : (decide (((w.length : Nat) : Int) < 1) || (decide (3 < ((w.length : Nat) : Int)) || (decide (((d.toNat : Nat) : Int) = 48) && decide (1 < ((w.length : Nat) : Int))))) = true) : magR false w = none := by
 unfold magR
 rw [if_pos]
 simp only [Bool.or_eq_true, Bool.and_eq_true, decide_eq_true_eq] at e
 rcases Nat.lt_or_ge 0 w.length with h0 | h0
 ·rcases e with e | e | e
  ·exact .inl (by omega)
  ·exact .inr (.inl (by omega))
  ·exact .inr (.inr ⟨(hd_iff h).2 ⟨h0, e.1⟩, .inl (by omega)⟩)
 ·exact .inl (by omega)
theorem magF_ok {w : List UInt8} {d : UInt8} (h : 0 < w.length → w[0]? = some d) (e : (decide (((w.length : Nat) : Int) < 1) || (decide (3 < ((w.length : Nat) : Int)) || (decide (((d.toNat : Nat) : Int) = 48) && decide (1 < ((w.length : Nat) : Int))))) = false) : magR false w = digR 0 w ∧ 1 ≤ w.length ∧ w.length ≤ 3 := by
 simp only [Bool.or_eq_false_iff, Bool.and_eq_false_imp, decide_eq_false_iff_not, decide_eq_true_eq] at e
 obtain ⟨e1, e2, e3⟩ := e
 refine ⟨?_, by omega, by omega⟩
 unfold magR
 rw [if_neg]
 rintro (h1 | h1 | ⟨h1, h2⟩)
 ·omega
 ·omega
 ·rcases h2 with h2 | h2
  ·exact e3 ((hd_iff h).1 h1).2 (by omega)
  ·cases h2
theorem dig_bad {b : UInt8} (e : (decide (((b.toNat : Nat) : Int) < 48) || decide (57 < ((b.toNat : Nat) : Int))) = true) : b.toNat < 48 ∨ 57 < b.toNat := by
 simp only [Bool.or_eq_true, decide_eq_true_eq] at e
 omega
theorem dig_ok {b : UInt8} (e : (decide (((b.toNat : Nat) : Int) < 48) || decide (57 < ((b.toNat : Nat) : Int))) = false) : 48 ≤ b.toNat ∧ b.toNat ≤ 57 := by
 simp only [Bool.or_eq_false_iff, decide_eq_false_iff_not] at e
 omega
theorem NumPost.none {f : List UInt8 → Option Int} {s : List UInt8} {w w' : World} (h : f s = .none) (hb : Below w.heap.size w w') : NumPost f s w (.returned (.tuple #[.int .i64 0, .bool false])) w' := ⟨0, (by rw [h]; rfl), (fun v hv => by rw [h] at hv; cases hv), hb⟩
theorem NumPost.some {f : List UInt8 → Option Int} {s : List UInt8} {n : Int} {w w' : World} (h : f s = .some n) (hb : Below w.heap.size w w') : NumPost f s w (.returned (.tuple #[.int .i64 n, .bool true])) w' := ⟨n, (by rw [h]; rfl), (fun v hv => by rw [h] at hv; injection hv), hb⟩
theorem rnumber_any (s : List UInt8) (w : World) (hs : s.length ≤ 1000000) :
   Calls Tryz.prog 150 #[sv s] w (NumPost numS s w) := by
 obtain ⟨b0, hk0⟩ := byte_get (s := s) (i := 0)
 refine Zpx noEx Tryz.func150 rfl 49 rfl [sv s] rfl rfl (Mem.init w _) ?_
 intro ac wc T M
 refine Zsr ?_
 refine Zg2 T (Zq (Zra rfl evc)) rfl (Zc rfl) rfl ?_; clear T ac; intro ac T
 replace T := T.pick [2] rfl
 refine Zln ?_
 refine wp_seq ?_
 refine cut_seq (fun ac wc => Tm ac 49 [(0, sv s), (23, .bool ((decide (((s.length : Nat) : Int) < 1)) || ((decide (3 < ((s.length : Nat) : Int))) || ((decide (((b0.toNat : Nat) : Int) = 48)) && (decide (1 < ((s.length : Nat) : Int)))))))] ∧ Mem w noEx wc []) ?_ ?_
 ·refine wp_region_lit ?_
  refine Zg4 T (Zq (Zrm rfl (T.e 0 rfl))) rfl (fun _ T => Zq (rn_slen rfl Tryz.underlying9 (T.e 0 rfl))) rfl (fun _ T => Zq (rn_lss rfl (T.e 0 rfl) evc)) rfl (Zm 0 rfl rfl) rfl ?_; clear T ac; intro ac T
  rcases Bool.eq_false_or_eq_true (decide (((s.length : Nat) : Int) < 1)) with h1 | h1
  ·replace h1 := of_decide_eq_true h1
   refine Zg8 T (Zp (Zwn rfl rfl (T.e 0 rfl) (Zdt h1))) rfl (fun _ T => Zp (Zwn rfl rfl (T.e 1 rfl) (Zdt h1))) rfl (fun _ T => Zp (Zwn rfl rfl (T.e 2 rfl) (Zdt h1))) rfl (fun _ T => Zq (Zr1 rfl (T.e 3 rfl) (Zdt h1) evc)) rfl (Zm 0 rfl rfl) rfl (fun _ T => Zp (Zwn rfl rfl (T.e 0 rfl) rfl)) rfl (fun _ T => Zp (Zwn rfl rfl (T.e 1 rfl) rfl)) rfl (fun _ T => Zp (Zwn rfl rfl (T.e 2 rfl) rfl)) rfl ?_; clear T ac; intro ac T
   refine Zg6 T (Zp (Zwn rfl rfl (T.e 3 rfl) rfl)) rfl (fun _ T => Zp (Zwu rfl rfl (T.e 0 rfl))) rfl (fun _ T => Zp (Zwu rfl rfl (T.e 1 rfl))) rfl (fun _ T => Zp (Zwu rfl rfl (T.e 2 rfl))) rfl (fun _ T => Zp (Zwn rfl rfl (T.e 7 rfl) rfl)) rfl (fun _ T => Zq (Zr1 rfl (T.e 8 rfl) rfl evc)) rfl ?_; clear T ac; intro ac T
   refine wpList_nil ?_
   replace T := T.pick [0, 18] rfl
   exact ⟨(T.pick (E' := [(0, sv s), (23, .bool true)]) [1, 0] rfl).as (by (try rw [show (decide (((s.length : Nat) : Int) < 1)) = true from (Zdt h1)]); (try rfl)), M.mask [] rfl⟩
  replace h1 := of_decide_eq_false h1
  refine Zg5 T (Zw (Zwy rfl rfl (T.e 0 rfl) (Zdf h1)) (Zrm rfl (T.e 4 rfl))) rfl (fun _ T => Zw (Zwy rfl rfl (T.e 1 rfl) (Zdf h1)) (rn_slen rfl Tryz.underlying9 (T.e 0 rfl))) rfl (fun _ T => Zw (Zwy rfl rfl (T.e 2 rfl) (Zdf h1)) (rn_gtr rfl (T.e 0 rfl) evc)) rfl (fun _ T => Zq (Zr0 rfl (T.e 3 rfl) (Zdf h1) (T.e 0 rfl))) rfl (Zm 0 rfl rfl) rfl ?_; clear T ac; intro ac T
  rcases Bool.eq_false_or_eq_true (decide (3 < ((s.length : Nat) : Int))) with h2 | h2
  ·replace h2 := of_decide_eq_true h2
   refine Zg8 T (Zp (Zwn rfl rfl (T.e 0 rfl) (Zdt h2))) rfl (fun _ T => Zp (Zwn rfl rfl (T.e 1 rfl) (Zdt h2))) rfl (fun _ T => Zp (Zwn rfl rfl (T.e 2 rfl) (Zdt h2))) rfl (fun _ T => Zp (Zwn rfl rfl (T.e 3 rfl) (Zdt h2))) rfl (fun _ T => Zp (Zwu rfl rfl (T.e 0 rfl))) rfl (fun _ T => Zp (Zwu rfl rfl (T.e 1 rfl))) rfl (fun _ T => Zp (Zwu rfl rfl (T.e 2 rfl))) rfl (fun _ T => Zp (Zwn rfl rfl (T.e 7 rfl) (Zdt h2))) rfl ?_; clear T ac; intro ac T
   refine lq T (Zr1 rfl (T.e 8 rfl) (Zdt h2) evc) ?_; clear T ac; intro ac T
   refine wpList_nil ?_
   replace T := T.pick [0, 18] rfl
   exact ⟨(T.pick (E' := [(0, sv s), (23, .bool true)]) [1, 0] rfl).as (by (try rw [show (decide (((s.length : Nat) : Int) < 1)) = false from (Zdf h1)]); (try rw [show (decide (3 < ((s.length : Nat) : Int))) = true from (Zdt h2)]); (try rfl)), M.mask [] rfl⟩
  replace h2 := of_decide_eq_false h2
  refine Zg4 T (Zw (Zwy rfl rfl (T.e 0 rfl) (Zdf h2)) (Zrm rfl (T.e 9 rfl))) rfl (fun _ T => Zw (Zwy rfl rfl (T.e 1 rfl) (Zdf h2)) (rn_sidx 0 rfl Tryz.underlying9 (T.e 0 rfl) evc rfl (hk0 (by omega)))) rfl (fun _ T => Zw (Zwy rfl rfl (T.e 2 rfl) (Zdf h2)) (rn_eql rfl (T.e 0 rfl) evc)) rfl (fun _ T => Zw (Zwy rfl rfl (T.e 3 rfl) (Zdf h2)) (Zrm rfl (T.e 0 rfl))) rfl ?_; clear T ac; intro ac T
  rcases Bool.eq_false_or_eq_true (decide (((b0.toNat : Nat) : Int) = 48)) with h3 | h3
  ·replace h3 := of_decide_eq_true h3
   refine Zg5 T (Zw (Zwy rfl rfl (T.e 0 rfl) (Zdt h3)) (Zrm rfl (T.e 13 rfl))) rfl (fun _ T => Zw (Zwy rfl rfl (T.e 1 rfl) (Zdt h3)) (rn_slen rfl Tryz.underlying9 (T.e 0 rfl))) rfl (fun _ T => Zw (Zwy rfl rfl (T.e 2 rfl) (Zdt h3)) (rn_gtr rfl (T.e 0 rfl) evc)) rfl (fun _ T => Zw (Zwy rfl rfl (T.e 7 rfl) (Zdf h2)) (Zr1 rfl (T.e 3 rfl) (Zdt h3) (T.e 0 rfl))) rfl (fun _ T => Zq (Zr0 rfl (T.e 8 rfl) (Zdf h2) (T.e 0 rfl))) rfl ?_; clear T ac; intro ac T
   refine wpList_nil ?_
   replace T := T.pick [0, 18] rfl
   exact ⟨(T.pick (E' := [(0, sv s), (23, .bool (decide (1 < ((s.length : Nat) : Int))))]) [1, 0] rfl).as (by (try rw [show (decide (((s.length : Nat) : Int) < 1)) = false from (Zdf h1)]); (try rw [show (decide (3 < ((s.length : Nat) : Int))) = false from (Zdf h2)]); (try rw [show (decide (((b0.toNat : Nat) : Int) = 48)) = true from (Zdt h3)]); (try rfl)), M.mask [] rfl⟩
  replace h3 := of_decide_eq_false h3
  refine Zg5 T (Zp (Zwn rfl rfl (T.e 0 rfl) (Zdf h3))) rfl (fun _ T => Zp (Zwn rfl rfl (T.e 1 rfl) (Zdf h3))) rfl (fun _ T => Zp (Zwn rfl rfl (T.e 2 rfl) (Zdf h3))) rfl (fun _ T => Zw (Zwy rfl rfl (T.e 7 rfl) (Zdf h2)) (Zr0 rfl (T.e 3 rfl) (Zdf h3) evc)) rfl (fun _ T => Zq (Zr0 rfl (T.e 8 rfl) (Zdf h2) (T.e 0 rfl))) rfl ?_; clear T ac; intro ac T
  refine wpList_nil ?_
  replace T := T.pick [0, 18] rfl
  exact ⟨(T.pick (E' := [(0, sv s), (23, .bool false)]) [1, 0] rfl).as (by (try rw [show (decide (((s.length : Nat) : Int) < 1)) = false from (Zdf h1)]); (try rw [show (decide (3 < ((s.length : Nat) : Int))) = false from (Zdf h2)]); (try rw [show (decide (((b0.toNat : Nat) : Int) = 48)) = false from (Zdf h3)]); (try rfl)), M.mask [] rfl⟩
 clear T M
 rintro ac wc ⟨T, M⟩
 refine wp_cond_split (T.e 1 rfl) ?_ ?_
 ·intro h4
  (have h4' := h4; try simp only [Zb1, Zb2, Zb3, Zb4, Zb5, Zb6, Zb7] at h4')
  refine Zsr ?_
  refine Zg2 T (Zq (Zra rfl evc)) rfl (Zc rfl) rfl ?_; clear T ac; intro ac T
  replace T := T.pick [0, 1] rfl
  refine Zln ?_
  refine wp_ret ?_
  refine Zrt ?_
  refine rt_2 T rfl (T.e 1 rfl) (T.e 0 rfl) ?_
  have hnr := numS_mag s
  rw [magF_bad hk0 (by assumption)] at hnr
  exact NumPost.none hnr M.below
 intro h4
 (have h4' := h4; try simp only [Zb1, Zb2, Zb3, Zb4, Zb5, Zb6, Zb7] at h4')
 refine Zsk ?_
 refine Zsr ?_
 refine lq T (Zra rfl evc) ?_; clear T ac; intro ac T
 replace T := T.pick [0, 1] rfl
 refine Zln ?_
 refine wp_seq ?_
 refine Zsr ?_
 refine lq T (Zra rfl evc) ?_; clear T ac; intro ac T
 refine Zln ?_
 refine wp_block ?_
 refine wp_loop_n (fun mz ac wc => ∃ (k nn : Nat), mz = s.length - k ∧ (k ≤ s.length) ∧ (digR 0 s = digR nn (s.drop k)) ∧ ((k = 0 → nn = 0) ∧ (k = 1 → nn ≤ 9) ∧ (k = 2 → nn ≤ 99) ∧ (k = 3 → nn ≤ 999)) ∧ Tm ac 49 [(0, sv s), (4, .int .i64 (nn : Int)), (5, .int .i64 (k : Int))] ∧ Mem w noEx wc []) ?_ ?_
 ·exact ⟨_, 0, 0, rfl, (Nat.zero_le _), rfl, ⟨fun _ => rfl, fun _ => by omega, fun _ => by omega, fun _ => by omega⟩, T.pick [2, 1, 0] rfl, M.mask [] rfl⟩
 clear T M
 rintro mz ac wc ⟨k, nn, hmm1, hk, hd, hn, T, M⟩
 refine wp_seq ?_
 refine Zsr ?_
 refine Zg4 T (Zq (Zrm rfl (T.e 2 rfl))) rfl (Zm 1 rfl rfl) rfl (fun _ T => Zq (rn_slen rfl Tryz.underlying9 (T.e 0 rfl))) rfl (fun _ T => Zq (rn_lss rfl (T.e 2 rfl) (T.e 0 rfl))) rfl ?_; clear T ac; intro ac T
 replace T := T.pick [0, 4, 5, 6] rfl
 refine Zln ?_
 refine wp_if (T.e 0 rfl) ?_ ?_
 ·intro h5
  obtain ⟨b, hkb⟩ : ∃ b, s[k]? = some b := ⟨_, List.getElem?_eq_getElem (by omega)⟩
  have hb256 := UInt8.toNat_lt b
  rw [digR_step hkb] at hd
  have hgd := magF_ok hk0 (by assumption)
  refine Zsk ?_
  refine wp_seq ?_
  refine wp_block ?_
  refine wp_seq ?_
  refine cut_seq (fun ac wc => Tm ac 49 [(0, sv s), (4, .int .i64 (nn : Int)), (5, .int .i64 (k : Int)), (39, .bool ((decide (((b.toNat : Nat) : Int) < 48)) || (decide (57 < ((b.toNat : Nat) : Int)))))] ∧ Mem w noEx wc []) ?_ ?_
  ·refine wp_region_lit ?_
   refine Zg5 T (Zq (Zrm rfl (T.e 1 rfl))) rfl (Zm 4 rfl rfl) rfl (fun _ T => Zq (rn_sidx k rfl Tryz.underlying9 (T.e 1 rfl) (T.e 0 rfl) rfl hkb)) rfl (fun _ T => Zq (rn_lss rfl (T.e 0 rfl) evc)) rfl (Zm 0 rfl rfl) rfl ?_; clear T ac; intro ac T
   rcases Bool.eq_false_or_eq_true (decide (((b.toNat : Nat) : Int) < 48)) with h6 | h6
   ·replace h6 := of_decide_eq_true h6
    refine Zg5 T (Zp (Zwn rfl rfl (T.e 0 rfl) (Zdt h6))) rfl (fun _ T => Zp (Zwn rfl rfl (T.e 1 rfl) (Zdt h6))) rfl (fun _ T => Zp (Zwn rfl rfl (T.e 2 rfl) (Zdt h6))) rfl (fun _ T => Zp (Zwn rfl rfl (T.e 3 rfl) (Zdt h6))) rfl (fun _ T => Zq (Zr1 rfl (T.e 4 rfl) (Zdt h6) evc)) rfl ?_; clear T ac; intro ac T
    refine wpList_nil ?_
    replace T := T.pick [0, 1, 2, 3, 4, 11, 12, 13] rfl
    exact ⟨(T.pick (E' := [(0, sv s), (4, .int .i64 (nn : Int)), (5, .int .i64 (k : Int)), (39, .bool true)]) [5, 6, 7, 0] rfl).as (by (try rw [show (decide (((b.toNat : Nat) : Int) < 48)) = true from (Zdt h6)]); (try rfl)), M.mask [] rfl⟩
   replace h6 := of_decide_eq_false h6
   refine Zg5 T (Zw (Zwy rfl rfl (T.e 0 rfl) (Zdf h6)) (Zrm rfl (T.e 6 rfl))) rfl (fun _ T => Zw (Zwy rfl rfl (T.e 1 rfl) (Zdf h6)) (Zrm rfl (T.e 9 rfl))) rfl (fun _ T => Zw (Zwy rfl rfl (T.e 2 rfl) (Zdf h6)) (rn_sidx k rfl Tryz.underlying9 (T.e 1 rfl) (T.e 0 rfl) rfl hkb)) rfl (fun _ T => Zw (Zwy rfl rfl (T.e 3 rfl) (Zdf h6)) (rn_gtr rfl (T.e 0 rfl) evc)) rfl (fun _ T => Zq (Zr0 rfl (T.e 4 rfl) (Zdf h6) (T.e 0 rfl))) rfl ?_; clear T ac; intro ac T
   refine wpList_nil ?_
   replace T := T.pick [0, 1, 2, 3, 4, 11, 12, 13] rfl
   exact ⟨(T.pick (E' := [(0, sv s), (4, .int .i64 (nn : Int)), (5, .int .i64 (k : Int)), (39, .bool (decide (57 < ((b.toNat : Nat) : Int))))]) [5, 6, 7, 0] rfl).as (by (try rw [show (decide (((b.toNat : Nat) : Int) < 48)) = false from (Zdf h6)]); (try rfl)), M.mask [] rfl⟩
  clear T M
  rintro ac wc ⟨T, M⟩
  refine wp_cond_split (T.e 3 rfl) ?_ ?_
  ·intro h7
   (have h7' := h7; try simp only [Zb1, Zb2, Zb3, Zb4, Zb5, Zb6, Zb7] at h7')
   refine Zsr ?_
   refine Zg2 T (Zq (Zra rfl evc)) rfl (Zc rfl) rfl ?_; clear T ac; intro ac T
   replace T := T.pick [0, 1] rfl
   refine Zln ?_
   refine wp_ret ?_
   refine Zrt ?_
   refine Zrb ?_
   refine Zrt ?_
   refine Zrt ?_
   refine Zrb ?_
   refine Zrt ?_
   refine rt_2 T rfl (T.e 1 rfl) (T.e 0 rfl) ?_
   have hnr := numS_mag s
   rw [hgd.1, hd, if_pos (dig_bad (by assumption))] at hnr
   exact NumPost.none hnr M.below
  intro h7
  (have h7' := h7; try simp only [Zb1, Zb2, Zb3, Zb4, Zb5, Zb6, Zb7] at h7')
  refine Zsk ?_
  refine wp_region_lit ?_
  refine Zg8 T (Zq (Zrm rfl (T.e 1 rfl))) rfl (fun _ T => Zq (rn_mul rfl evc (T.e 0 rfl) (by omega))) rfl (Zm 2 rfl rfl) rfl (Zm 5 rfl rfl) rfl (fun _ T => Zq (rn_sidx k rfl Tryz.underlying9 (T.e 1 rfl) (T.e 0 rfl) rfl hkb)) rfl (fun _ T => Zq (rn_sub8 rfl (T.e 0 rfl) evc (by omega))) rfl (fun _ T => Zq (rn_cvt8 rfl Tryz.underlying5 Tryz.underlying3 (T.e 0 rfl) (by omega))) rfl (fun _ T => Zq (rn_add rfl (T.e 5 rfl) (T.e 0 rfl) (by omega))) rfl ?_; clear T ac; intro ac T
  refine l_q (v := (.int .i64 ((10 * (nn : Int)) + (((b.toNat : Nat) : Int) - 48)))) (T.pick [0, 1, 2, 3, 4, 5, 6, 7, 8, 10, 11] rfl) rfl rfl rfl rfl (Zra rfl (T.e 0 rfl)) ?_; clear T ac; intro ac T
  refine wpList_nil ?_
  replace T := T.pick [0, 9, 10] rfl
  refine Znb ?_
  refine nm_then ?_
  refine wp_region_lit ?_
  refine Zg2 T (Zq (Zrm rfl (T.e 2 rfl))) rfl (fun _ T => Zq (rn_add rfl (T.e 0 rfl) evc (by omega))) rfl ?_; clear T ac; intro ac T
  refine l_q (v := (.int .i64 ((k : Int) + 1))) (T.pick [0, 1, 2, 3] rfl) rfl rfl rfl rfl (Zra rfl (T.e 0 rfl)) ?_; clear T ac; intro ac T
  replace T := T.pick [0, 3, 4] rfl
  refine Zln ?_
  have hdg := dig_ok (b := b) (by assumption)
  rw [if_neg (by omega)] at hd
  have e9 : ((10 * (nn : Int)) + (((b.toNat : Nat) : Int) - 48)) = ((10 * nn + (b.toNat - 48) : Nat) : Int) := by omega
  rw [e9] at T
  exact ⟨_, by omega, k + 1, (10 * nn + (b.toNat - 48)), rfl, (by omega), hd, (by omega), T.pick [2, 1, 0] rfl, M.mask [] rfl⟩
 intro h5
 refine wp_exit ?_
 refine Zet ?_
 refine Zet ?_
 refine ex_hit ?_
 refine nm_then ?_
 refine Zsr ?_
 refine Zg3 T (Zq (Zrm rfl (T.e 2 rfl))) rfl (Za 0 rfl rfl) rfl (Zc rfl) rfl ?_; clear T ac; intro ac T
 replace T := T.pick [0, 1] rfl
 refine Zln ?_
 refine wp_ret ?_
 refine rt_2 T rfl (T.e 1 rfl) (T.e 0 rfl) ?_
 have hnr := numS_mag s
 have hgd := magF_ok hk0 (by assumption)
 rw [List.drop_of_length_le (by omega)] at hd
 rw [hgd.1, hd] at hnr
 exact NumPost.some hnr M.below
def sumF {α : Type} (f : α → Nat) : List α → Nat
 | [] => 0
 | x :: l => f x + sumF f l
theorem sumF_app {α : Type} (f : α → Nat) : ∀ (l m : List α), sumF f (l ++ m) = sumF f l + sumF f m
 | [], m => (Nat.zero_add _).symm
 | x :: l, m => by show f x + sumF f (l ++ m) = f x + sumF f l + sumF f m; rw [sumF_app f l m, Nat.add_assoc]
theorem sumF_cons {α : Type} (f : α → Nat) (x : α) (l : List α) : sumF f (x :: l) = f x + sumF f l := rfl
theorem sumF_nil {α : Type} (f : α → Nat) : sumF f ([] : List α) = 0 := rfl
open Classical in
theorem perm_sum {α : Type} {L L' : List α} (h : ∀ f : α → Nat, sumF f L = sumF f L') : L.Perm L' := by
 have key : ∀ (a : α) (l : List α), l.count a = sumF (fun x => if x = a then 1 else 0) l := by
  intro a l
  induction l with
  | nil => rfl
  | cons x l ih =>
   rw [List.count_cons, ih, sumF_cons, Nat.add_comm]
   by_cases hx : x = a <;> simp [hx]
 rw [List.perm_iff_count]
 intro a
 rw [key, key, h]
section
variable {w0 w : World} {ex : Nat → Prop} {L L' : List (Nat × BA)}
theorem Mem.permS (M : Mem w0 ex w L) (h : ∀ f : (Nat × BA) → Nat, sumF f L = sumF f L') : Mem w0 ex w L' :=
 have hp := perm_sum h
 ⟨M.os, M.tape, M.output, M.size, M.block, fun p h => M.blk p (hp.mem_iff.2 h), (hp.map _).nodup_iff.1 M.nd⟩
theorem Mem.subS (R : List (Nat × BA)) (M : Mem w0 ex w L) (h : ∀ f : (Nat × BA) → Nat, sumF f L = sumF f L' + sumF f R) : Mem w0 ex w L' :=
 (M.permS (L' := L' ++ R) fun f => by rw [sumF_app, h f]).sub (Zsl _ _)
end
theorem spl_len (c : UInt8) : ∀ s : List UInt8, (spl c s).length ≤ s.length + 1
 | [] => Nat.le_refl _
 | b :: r => by
  have := spl_len c r
  unfold spl
  split
  ·rw [List.length_cons, List.length_cons]; omega
  ·split
   ·simp only [List.length_cons, List.length_nil]; omega
   ·rename_i h; rw [h] at this; rw [List.length_cons] at this ⊢; rw [List.length_cons]; omega
theorem spl_mem_len {c : UInt8} : ∀ {s p : List UInt8}, p ∈ spl c s → p.length ≤ s.length
 | [], p, h => by rcases List.mem_singleton.1 h with rfl; exact Nat.le_refl _
 | b :: r, p, h => by
  have ih := fun {p} => spl_mem_len (c := c) (s := r) (p := p)
  unfold spl at h
  split at h
  ·rcases List.mem_cons.1 h with rfl | h
   ·exact Nat.zero_le _
   ·have := ih h; rw [List.length_cons]; omega
  ·split at h
   ·rcases List.mem_singleton.1 h with rfl; simp only [List.length_cons, List.length_nil]; omega
   ·rename_i x l e
    rcases List.mem_cons.1 h with rfl | h
    ·have := ih (p := x) (by rw [e]; exact Zz2); rw [List.length_cons, List.length_cons]; omega
    ·have := ih (p := p) (by rw [e]; exact Zz1 h); rw [List.length_cons]; omega
theorem st_part (l : List (List UInt8)) (k h : Nat) : ((st l).drop (k * 1)).take ((h - k) * 1) = st ((l.drop k).take (h - k)) := by
 rw [Nat.mul_one, Nat.mul_one, st_map, st_map, List.map_take, List.map_drop]
theorem st_length2 (l : List (List UInt8)) : (st l).length = l.length := by rw [st_map, List.length_map]
theorem row_sp {w : World} {ex : Nat → Prop} {g : Nat} (l : List (List UInt8)) : Sp w ex [(g, .cells (st l))] (some ⟨g, 0, none⟩) l.length 1 g 0 (st l) := Sp.cells (by rw [st_length2]; omega)
def SplP (l : List (List UInt8)) (w : World) (e : Ending) (w' : World) : Prop := ∃ (A : Option Addr) (c b o : Nat) (I : List (Nat × BA)), e = .returned (.slice A l.length c) ∧ l.length ≤ c ∧ (∀ (w : World) (ex : Nat → Prop), Sp w ex I A l.length 1 b o (st l)) ∧ Mem w noEx w' I
theorem Split2_any (s : List UInt8) (c : UInt8) (w : World) (hs : s.length ≤ 1000000) (hT : StrW w) : Calls Tryz.prog 46 #[sv s, sv [c]] w (SplP (spl c s) w) := by
 refine (Split_any s c w hs hT).mono fun e w' h => ?_
 obtain ⟨g, rfl, M⟩ := h
 exact ⟨_, _, g, 0, _, rfl, Nat.le_refl _, fun _ _ => row_sp _, M⟩
theorem Sl.spW {e n c size : Nat} {A : Option Addr} {xs : List Value} {I : List (Nat × BA)} (h : Sl e size (.slice A n c) n xs I) (hl : xs.length = n * size) : ∃ b o, ∀ (w : World) (ex : Nat → Prop), Sp w ex I A n size b o xs := by
 rcases h with ⟨h1, rfl, rfl, rfl⟩ | ⟨g, cap, h1, rfl⟩
 ·exact ⟨0, 0, fun w ex => Sp.nil⟩
 ·injection h1 with h1 _ h2
  subst h1
  exact ⟨g, 0, fun w ex => Sp.row (by omega)⟩
theorem cut_len1 (s : List UInt8) (c : UInt8) : (Lib.cut s [c]).1.length ≤ s.length ∧ (Lib.cut s [c]).2.1.length ≤ s.length := by
 rcases cut_spl c s with ⟨-, e, -⟩ | ⟨a, r, -, rfl, e, -⟩
 · rw [e]; exact ⟨Nat.le_refl _, Nat.zero_le _⟩
 · rw [e]; simp only [List.length_append, List.length_cons]; exact ⟨by omega, by omega⟩
def PairPost (o : Option (Int × Int)) (w : World) (e : Ending) (w' : World) : Prop := ∃ a b : Int, e = .returned (.tuple #[.int .i64 a, .int .i64 b, .bool o.isSome]) ∧ (∀ z, o = some z → z = (a, b)) ∧ Below w.heap.size w w'
theorem pair_some {c : UInt8} {s : List UInt8} : ((Lib.cut s [c]).2.2 && ((numS (Lib.cut s [c]).1).isSome && (numS (Lib.cut s [c]).2.1).isSome)) = (pairS c s).isSome := by
 unfold pairS
 cases (Lib.cut s [c]).2.2 <;> cases numS (Lib.cut s [c]).1 <;> cases numS (Lib.cut s [c]).2.1 <;> rfl
theorem pair_val {c : UInt8} {s : List UInt8} {a b : Int} (h1 : ∀ v, numS (Lib.cut s [c]).1 = some v → a = v) (h2 : ∀ v, numS (Lib.cut s [c]).2.1 = some v → b = v) : ∀ z, pairS c s = some z → z = (a, b) := by
 intro z hz
 unfold pairS at hz
 split at hz
 ·cases e1 : numS (Lib.cut s [c]).1 with
  | none => rw [e1] at hz; cases hz
  | some x =>
   cases e2 : numS (Lib.cut s [c]).2.1 with
   | none => rw [e1, e2] at hz; cases hz
   | some y => rw [e1, e2] at hz; injection hz with hz; rw [← hz, h1 x e1, h2 y e2]
 ·cases hz
theorem two_of {c : UInt8} {s x y : List UInt8} (h : spl c s = [x, y]) : pairR c s = match numS x, numS y with
  | some a, some b => some (a, b)
  | _, _ => none := by unfold pairR; rw [h] <;> rfl
theorem two_some {c : UInt8} {s x y : List UInt8} (h : spl c s = [x, y]) : ((numS x).isSome && (numS y).isSome) = (pairR c s).isSome := by
 rw [two_of h]
 cases numS x <;> cases numS y <;> rfl
theorem two_val {c : UInt8} {s x y : List UInt8} {a b : Int} (h : spl c s = [x, y]) (h1 : ∀ v, numS x = some v → a = v) (h2 : ∀ v, numS y = some v → b = v) : ∀ z, pairR c s = some z → z = (a, b) := by
 intro z hz
 rw [two_of h] at hz
 cases e1 : numS x with
 | none => rw [e1] at hz; cases hz
 | some p =>
  cases e2 : numS y with
  | none => rw [e1, e2] at hz; cases hz
  | some q => rw [e1, e2] at hz; injection hz with hz; rw [← hz, h1 p e1, h2 q e2]
theorem two_no {c : UInt8} {s : List UInt8} (h : (spl c s).length ≠ 2) : pairR c s = none := by
 unfold pairR
 match e : spl c s with
 | [] => rfl
 | [_] => rfl
 | [_, _] => rw [e] at h; exact absurd rfl h
 | _ :: _ :: _ :: _ => rfl
theorem two_list {l : List (List UInt8)} {x y : List UInt8} (hl : l.length = 2) (h0 : l[0]? = some x) (h1 : l[1]? = some y) : l = [x, y] := by
 match l, hl with
 | [a, b], _ =>
  simp at h0 h1
  rw [h0, h1]
theorem four_list {l : List (List UInt8)} {x y z u : List UInt8} (hl : l.length = 4) (h0 : l[0]? = some x) (h1 : 1 < l.length → l[1]? = some y) (h2 : 2 < l.length → l[2]? = some z) (h3 : 3 < l.length → l[3]? = some u) : l = [x, y, z, u] := by
 match l, hl with
 | [a, b, c, d], _ =>
  have e1 := h1 (by simp)
  have e2 := h2 (by simp)
  have e3 := h3 (by simp)
  simp at h0 e1 e2 e3
  rw [h0, e1, e2, e3]
theorem word_at {l : List (List UInt8)} (k : Nat) : ∃ q, k < l.length → l[k]? = some q := by
 by_cases h : k < l.length
 · exact ⟨_, fun _ => List.getElem?_eq_getElem h⟩
 · exact ⟨[], fun h2 => absurd h2 h⟩
theorem headS_len {l : List (List UInt8)} (h : l.length ≠ 4) (s : Sk) : headS l s = none := by
 unfold headS
 split
 · simp at h
 · rfl
theorem partS_len {l : List (List UInt8)} (h : l.length ≠ 4) (s : Sk) : partS l s = none := by
 unfold partS
 split
 · simp at h
 · rfl
theorem headS_word {l : List (List UInt8)} {k : List UInt8} (h0 : l[0]? = some k) (h : k ≠ sheetW) (s : Sk) : headS l s = none := by
 unfold headS
 split
 · simp at h0; subst h0; rw [if_neg h]
 · rfl
theorem partS_word {l : List (List UInt8)} {k : List UInt8} (h0 : l[0]? = some k) (h : k ≠ blankW) (s : Sk) : partS l s = none := by
 unfold partS
 split
 · simp at h0; subst h0; rw [if_neg (fun e => h e.1)]
 · rfl
theorem partS_kind {p q r : List UInt8} (h1 : q ≠ anyW) (h2 : q ≠ grainW) (k : List UInt8) (s : Sk) : partS [k, p, q, r] s = none := by
 unfold partS
 dsimp only
 rw [if_neg]
 rintro ⟨-, h | h⟩
 · exact h1 h
 · exact h2 h
def KeptS (bs : Nat) (s : Sk) (L : List (Nat × BA)) : Prop := ∃ A c I, L = (bs, .cells [.int .i64 s.lo, .int .i64 s.wi, .int .i64 s.a0, .int .i64 s.a1, .int .i64 s.c0, .int .i64 s.c1, .slice A s.ps.length c]) :: I ∧ Sl 119 4 (.slice A s.ps.length c) s.ps.length (pc s.ps) I
def TakeS (o : Option Sk) (w : World) (exq : Nat → Prop) (bs n : Nat) (e : Ending) (w' : World) : Prop := e = .returned (.bool o.isSome) ∧ ∃ (s' : Sk) (L : List (Nat × BA)), Mem w exq w' L ∧ KeptS bs s' L ∧ s'.ps.length ≤ n + 1 ∧ ∀ t, o = some t → s' = t
theorem TakeS.none {o : Option Sk} {w w' : World} {exq : Nat → Prop} {bs n : Nat} {L : List (Nat × BA)} {s' : Sk} (h : o = .none) (M : Mem w exq w' L) (hk : KeptS bs s' L) (hn : s'.ps.length ≤ n + 1) : TakeS o w exq bs n (.returned (.bool false)) w' := by
 subst h
 exact ⟨rfl, s', L, M, hk, hn, fun t h => by cases h⟩
theorem head_some {p q r : List UInt8} (s : Sk) : ((pairS 120 p).isSome && ((pairS 126 q).isSome && (pairS 126 r).isSome)) = (headS [sheetW, p, q, r] s).isSome := by
 unfold headS
 dsimp only
 rw [if_pos rfl]
 cases pairS 120 p <;> cases pairS 126 q <;> cases pairS 126 r <;> rfl
theorem head_val {p q r : List UInt8} {s : Sk} {a b c d e f : Int} (h1 : ∀ z, pairS 120 p = some z → z = (a, b)) (h2 : ∀ z, pairS 126 q = some z → z = (c, d)) (h3 : ∀ z, pairS 126 r = some z → z = (e, f)) : ∀ t, headS [sheetW, p, q, r] s = some t → { s with lo := a, wi := b, a0 := c, a1 := d, c0 := e, c1 := f } = t := by
 intro t ht
 unfold headS at ht
 dsimp only at ht
 rw [if_pos rfl] at ht
 cases e1 : pairS 120 p with
 | none => rw [e1] at ht; cases ht
 | some x =>
  cases e2 : pairS 126 q with
  | none => rw [e1, e2] at ht; cases ht
  | some y =>
   cases e3 : pairS 126 r with
   | none => rw [e1, e2, e3] at ht; cases ht
   | some z =>
    rw [e1, e2, e3] at ht
    injection ht with ht
    rw [← ht, h1 x e1, h2 y e2, h3 z e3]
theorem part_some {p q r : List UInt8} {g : Bool} (hq : (q = anyW ∧ g = false) ∨ (q = grainW ∧ g = true)) (s : Sk) : ((pairS 120 p).isSome && (numS r).isSome) = (partS [blankW, p, q, r] s).isSome := by
 unfold partS
 dsimp only
 rw [if_pos ⟨rfl, by rcases hq with h | h; exact .inl h.1; exact .inr h.1⟩]
 cases pairS 120 p <;> cases numS r <;> rfl
theorem part_val {p q r : List UInt8} {g : Bool} {s : Sk} {a b n : Int} (hq : (q = anyW ∧ g = false) ∨ (q = grainW ∧ g = true)) (h1 : ∀ z, pairS 120 p = some z → z = (a, b)) (h2 : ∀ v, numS r = some v → n = v) : ∀ t, partS [blankW, p, q, r] s = some t → { s with ps := s.ps ++ [(⟨a, b, g, n⟩ : Pt)] } = t := by
 intro t ht
 unfold partS at ht
 dsimp only at ht
 rw [if_pos ⟨rfl, by rcases hq with h | h; exact .inl h.1; exact .inr h.1⟩] at ht
 cases e1 : pairS 120 p with
 | none => rw [e1] at ht; cases ht
 | some x =>
  cases e2 : numS r with
  | none => rw [e1, e2] at ht; cases ht
  | some v =>
   rw [e1, e2] at ht
   injection ht with ht
   have hg : decide (q = grainW) = g := by
    rcases hq with ⟨rfl, rfl⟩ | ⟨rfl, rfl⟩ <;> decide
   rw [← ht, h1 x e1, h2 v e2, hg]
theorem spair_any (s : List UInt8) (c : UInt8) (w : World) (hs : s.length ≤ 1000000) (hT : StrW w)  :
   Calls Tryz.prog 197 #[sv s, sv ([c])] w (PairPost (pairS c s) w) := by
 refine Zpx noEx Tryz.func197 rfl 38 rfl [sv s, sv ([c])] rfl rfl (Mem.init w _) ?_
 intro ac wc T M
 refine Zsr ?_
 refine Zg3 T (Zq (Zra rfl evc)) rfl (Zc rfl) rfl (Zc rfl) rfl ?_; clear T ac; intro ac T
 replace T := T.pick [3, 4] rfl
 refine Zln ?_
 refine Zsr ?_
 refine Zg2 T (Zq (Zrm rfl (T.e 0 rfl))) rfl (Zm 2 rfl rfl) rfl ?_; clear T ac; intro ac T
 refine Zl2 ?_
 refine Zoc (first := []) (cap := []) T rfl rfl rfl rfl evf (.cons (T.e 1 rfl) (.cons (T.e 0 rfl) .nil)) Tryz.func118 rfl rfl ?_
 refine Calls.mono (Cut_any s [c] _ (by omega) (hT.mem0 M)) ?_
 clear T; rintro e wc ⟨rfl, hb⟩ ac T
 replace M := M.call hb; clear hb
 have hcl := cut_len1 s c
 refine Zg7 T (Zq (Zrm rfl (T.e 0 rfl))) rfl (Ze 0 rfl rfl rfl) rfl (Ze 1 rfl rfl rfl) rfl (Ze 2 rfl rfl rfl) rfl (Za 2 rfl rfl) rfl (Za 2 rfl rfl) rfl (Za 2 rfl rfl) rfl ?_; clear T ac; intro ac T
 replace T := T.pick [0, 1, 2] rfl
 refine Zln ?_
 refine Zsr ?_
 refine lq T (Zrm rfl (T.e 2 rfl)) ?_; clear T ac; intro ac T
 refine Zl2 ?_
 refine Zoc (first := []) (cap := []) T rfl rfl rfl rfl evf (.cons (T.e 0 rfl) .nil) Tryz.func198 rfl rfl ?_
 refine Calls.mono (snumber_any ((Lib.cut s [c]).1) _ (by omega) (hT.mem0 M)) ?_
 clear T; rintro e wc ⟨nu2, rfl, hvu2, hb⟩ ac T
 replace M := M.call hb; clear hb
 refine Zg5 T (Zq (Zrm rfl (T.e 0 rfl))) rfl (Ze 0 rfl rfl rfl) rfl (Ze 1 rfl rfl rfl) rfl (Za 1 rfl rfl) rfl (Za 1 rfl rfl) rfl ?_; clear T ac; intro ac T
 replace T := T.pick [0, 1, 7, 8] rfl
 refine Zln ?_
 refine Zsr ?_
 refine lq T (Zrm rfl (T.e 3 rfl)) ?_; clear T ac; intro ac T
 refine Zl2 ?_
 refine Zoc (first := []) (cap := []) T rfl rfl rfl rfl evf (.cons (T.e 0 rfl) .nil) Tryz.func198 rfl rfl ?_
 refine Calls.mono (snumber_any ((Lib.cut s [c]).2.1) _ (by omega) (hT.mem0 M)) ?_
 clear T; rintro e wc ⟨nu3, rfl, hvu3, hb⟩ ac T
 replace M := M.call hb; clear hb
 refine Zg5 T (Zq (Zrm rfl (T.e 0 rfl))) rfl (Ze 0 rfl rfl rfl) rfl (Ze 1 rfl rfl rfl) rfl (Za 1 rfl rfl) rfl (Za 1 rfl rfl) rfl ?_; clear T ac; intro ac T
 replace T := T.pick [0, 1, 7, 8, 9] rfl
 refine Zln ?_
 refine cut_seq (fun ac wc => Tm ac 38 [(4, .int .i64 nu2), (5, .int .i64 nu3), (6, .bool (((Lib.cut s [c]).2.2) && (((numS ((Lib.cut s [c]).1)).isSome) && ((numS ((Lib.cut s [c]).2.1)).isSome))))] ∧ Mem w noEx wc []) ?_ ?_
 ·refine wp_region_lit ?_
  refine Zg4 T (Zq (Zrm rfl (T.e 3 rfl))) rfl (Zm 2 rfl rfl) rfl (Zm 6 rfl rfl) rfl (Zm 0 rfl rfl) rfl ?_; clear T ac; intro ac T
  rcases Bool.eq_false_or_eq_true ((Lib.cut s [c]).2.2) with h1 | h1
  ·refine Zg3 T (Zw (Zwy rfl rfl (T.e 0 rfl) h1) (Zrm rfl (T.e 6 rfl))) rfl (fun _ T => Zq (Zr1 rfl (T.e 1 rfl) h1 (T.e 0 rfl))) rfl (Zm 0 rfl rfl) rfl ?_; clear T ac; intro ac T
   rcases Bool.eq_false_or_eq_true ((numS ((Lib.cut s [c]).1)).isSome) with h2 | h2
   ·refine Zg2 T (Zw (Zwy rfl rfl (T.e 0 rfl) h2) (Zrm rfl (T.e 7 rfl))) rfl (fun _ T => Zq (Zr1 rfl (T.e 1 rfl) h2 (T.e 0 rfl))) rfl ?_; clear T ac; intro ac T
    refine l_q (v := (.int .i64 nu2)) (T.pick [0, 1, 2, 3, 4, 5, 6, 7, 8, 9, 10, 11, 13] rfl) rfl rfl rfl rfl (Zra rfl (T.e 8 rfl)) ?_; clear T ac; intro ac T
    refine l_q (v := (.int .i64 nu3)) (T.pick [0, 1, 2, 3, 4, 5, 6, 7, 8, 9, 10, 12, 13] rfl) rfl rfl rfl rfl (Zra rfl (T.e 8 rfl)) ?_; clear T ac; intro ac T
    refine lq T (Zra rfl (T.e 2 rfl)) ?_; clear T ac; intro ac T
    refine wpList_nil ?_
    replace T := T.pick [0, 1, 2] rfl
    exact ⟨(T.pick (E' := [(4, .int .i64 nu2), (5, .int .i64 nu3), (6, .bool ((numS ((Lib.cut s [c]).2.1)).isSome))]) [2, 1, 0] rfl).as (by (try rw [show ((Lib.cut s [c]).2.2) = true from h1]); (try rw [show ((numS ((Lib.cut s [c]).1)).isSome) = true from h2]); (try rfl)), M.mask [] rfl⟩
   refine Zg2 T (Zp (Zwn rfl rfl (T.e 0 rfl) h2)) rfl (fun _ T => Zq (Zr0 rfl (T.e 1 rfl) h2 evc)) rfl ?_; clear T ac; intro ac T
   refine l_q (v := (.int .i64 nu2)) (T.pick [0, 1, 2, 3, 4, 5, 6, 7, 8, 9, 10, 11, 13] rfl) rfl rfl rfl rfl (Zra rfl (T.e 8 rfl)) ?_; clear T ac; intro ac T
   refine l_q (v := (.int .i64 nu3)) (T.pick [0, 1, 2, 3, 4, 5, 6, 7, 8, 9, 10, 12, 13] rfl) rfl rfl rfl rfl (Zra rfl (T.e 8 rfl)) ?_; clear T ac; intro ac T
   refine lq T (Zra rfl (T.e 2 rfl)) ?_; clear T ac; intro ac T
   refine wpList_nil ?_
   replace T := T.pick [0, 1, 2] rfl
   exact ⟨(T.pick (E' := [(4, .int .i64 nu2), (5, .int .i64 nu3), (6, .bool false)]) [2, 1, 0] rfl).as (by (try rw [show ((Lib.cut s [c]).2.2) = true from h1]); (try rw [show ((numS ((Lib.cut s [c]).1)).isSome) = false from h2]); (try rfl)), M.mask [] rfl⟩
  refine Zg5 T (Zp (Zwn rfl rfl (T.e 0 rfl) h1)) rfl (fun _ T => Zq (Zr0 rfl (T.e 1 rfl) h1 evc)) rfl (Zm 0 rfl rfl) rfl (fun _ T => Zp (Zwn rfl rfl (T.e 0 rfl) rfl)) rfl (fun _ T => Zq (Zr0 rfl (T.e 1 rfl) rfl evc)) rfl ?_; clear T ac; intro ac T
  refine l_q (v := (.int .i64 nu2)) (T.pick [0, 1, 2, 3, 4, 5, 6, 7, 8, 9, 10, 11, 13] rfl) rfl rfl rfl rfl (Zra rfl (T.e 8 rfl)) ?_; clear T ac; intro ac T
  refine l_q (v := (.int .i64 nu3)) (T.pick [0, 1, 2, 3, 4, 5, 6, 7, 8, 9, 10, 12, 13] rfl) rfl rfl rfl rfl (Zra rfl (T.e 8 rfl)) ?_; clear T ac; intro ac T
  refine lq T (Zra rfl (T.e 2 rfl)) ?_; clear T ac; intro ac T
  refine wpList_nil ?_
  replace T := T.pick [0, 1, 2] rfl
  exact ⟨(T.pick (E' := [(4, .int .i64 nu2), (5, .int .i64 nu3), (6, .bool false)]) [2, 1, 0] rfl).as (by (try rw [show ((Lib.cut s [c]).2.2) = false from h1]); (try rfl)), M.mask [] rfl⟩
 clear T M
 rintro ac wc ⟨T, M⟩
 refine wp_ret ?_
 refine rt_3 T rfl (T.e 0 rfl) (T.e 1 rfl) (T.e 2 rfl) ?_
 have e9 : (((Lib.cut s [c]).2.2) && (((numS ((Lib.cut s [c]).1)).isSome) && ((numS ((Lib.cut s [c]).2.1)).isSome))) = (pairS c s).isSome := by first | exact pair_some | (rw [← pair_some, Bool.and_assoc])
 exact ⟨nu2, nu3, by rw [← e9], pair_val hvu2 hvu3, M.below⟩
theorem rpair_any (s : List UInt8) (c : UInt8) (w : World) (hs : s.length ≤ 900000) (hc : ¬ (48 ≤ c.toNat ∧ c.toNat ≤ 57)) :
   Calls Tryz.prog 149 #[sv s, .int .u8 ((c.toNat : Nat) : Int)] w (PairPost (pairS c s) w) := by
 refine Zpx noEx Tryz.func149 rfl 38 rfl [sv s, .int .u8 ((c.toNat : Nat) : Int)] rfl rfl (Mem.init w _) ?_
 intro ac wc T M
 refine Zsr ?_
 refine Zg3 T (Zq (Zra rfl evc)) rfl (Zc rfl) rfl (Zc rfl) rfl ?_; clear T ac; intro ac T
 replace T := T.pick [3, 4] rfl
 refine Zln ?_
 refine Zsr ?_
 refine Zg2 T (Zq (Zrm rfl (T.e 0 rfl))) rfl (Zm 2 rfl rfl) rfl ?_; clear T ac; intro ac T
 refine Zl2 ?_
 refine Zoc (first := []) (cap := []) T rfl rfl rfl rfl evf (.cons (T.e 1 rfl) (.cons (T.e 0 rfl) .nil)) Tryz.func74 rfl rfl ?_
 refine Calls.mono (rsplit_any s c _ (by omega)) ?_
 clear T; rintro e wc ⟨Au1, cu1, Iu1, rfl, hslu1, N⟩ ac T
 obtain ⟨lsu1, hlsu1⟩ : ∃ q, q = spl c s := ⟨_, rfl⟩
 rw [← hlsu1] at hslu1 T
 obtain ⟨bu1, ou1, SVu1⟩ := Sl.spW hslu1 (by rw [st_length2, Nat.mul_one])
 have Su1 := SVu1 w noEx
 replace M := (M.join N).swapI
 clear N
 replace M : Mem w noEx wc (Iu1) := M
 have hlenu1 : lsu1.length ≤ s.length + 1 := by rw [hlsu1]; exact spl_len _ _
 obtain ⟨xu1, hxu1⟩ := word_at (l := lsu1) 0
 obtain ⟨yu1, hyu1⟩ := word_at (l := lsu1) 1
 have hxlu1 : 0 < lsu1.length → xu1.length ≤ s.length := fun h => spl_mem_len (c := c) (by rw [← hlsu1]; exact List.mem_of_getElem? (hxu1 h))
 have hylu1 : 1 < lsu1.length → yu1.length ≤ s.length := fun h => spl_mem_len (c := c) (by rw [← hlsu1]; exact List.mem_of_getElem? (hyu1 h))
 refine lq T (Zra rfl (T.e 0 rfl)) ?_; clear T ac; intro ac T
 replace T := T.pick [0] rfl
 refine Zln ?_
 refine wp_seq ?_
 refine Zsr ?_
 refine Zg3 T (Zq (Zrm rfl (T.e 0 rfl))) rfl (Zl Tryz.underlying37 0 rfl rfl) rfl (fun _ T => Zq (rn_neq rfl (T.e 0 rfl) evc)) rfl ?_; clear T ac; intro ac T
 replace T := T.pick [0, 3] rfl
 refine Zln ?_
 refine wp_ifn (T.e 0 rfl) ?_ ?_
 ·intro h1
  refine Zsr ?_
  refine Zg3 T (Zq (Zra rfl evc)) rfl (Zc rfl) rfl (Zc rfl) rfl ?_; clear T ac; intro ac T
  replace T := T.pick [0, 1, 2] rfl
  refine Zln ?_
  refine wp_ret ?_
  refine Zrt ?_
  refine rt_3 T rfl (T.e 2 rfl) (T.e 1 rfl) (T.e 0 rfl) ?_
  have hno : pairR c s = none := two_no (by rw [← hlsu1]; omega)
  exact ⟨0, 0, (by rw [pair_eq hc, hno]; rfl), (fun z hz => by rw [pair_eq hc, hno] at hz; cases hz), M.below⟩
 intro h1
 have hxb := hxlu1 (by omega)
 have hyb := hylu1 (by omega)
 refine Zsk ?_
 refine Zsr ?_
 refine Zg3 T (Zq (Zrm rfl (T.e 1 rfl))) rfl (fun _ T => Zq (Zri (size := 1) 0 rfl (T.e 0 rfl) evc ⟨_, Tryz.underlying37, by kernel_rfl⟩ rfl (by omega) (Su1.at0 (by omega)))) rfl (fun _ T => Zq (rn_cell (Sp.stC0 Su1 M (List.Sublist.refl _) (hxu1 (by omega))) rfl (T.e 0 rfl))) rfl ?_; clear T ac; intro ac T
 refine Zl2 ?_
 refine Zoc (first := []) (cap := []) T rfl rfl rfl rfl evf (.cons (T.e 0 rfl) .nil) Tryz.func150 rfl rfl ?_
 refine Calls.mono (rnumber_any xu1 _ (by omega)) ?_
 clear T; rintro e wc ⟨nu2, rfl, hvu2, hb⟩ ac T
 replace M := M.call hb; clear hb
 refine Zg5 T (Zq (Zrm rfl (T.e 0 rfl))) rfl (Ze 0 rfl rfl rfl) rfl (Ze 1 rfl rfl rfl) rfl (Za 1 rfl rfl) rfl (Za 1 rfl rfl) rfl ?_; clear T ac; intro ac T
 replace T := T.pick [0, 1, 10] rfl
 refine Zln ?_
 refine Zsr ?_
 refine Zg3 T (Zq (Zrm rfl (T.e 2 rfl))) rfl (fun _ T => Zq (Zri (size := 1) 1 rfl (T.e 0 rfl) evc ⟨_, Tryz.underlying37, by kernel_rfl⟩ rfl (by omega) (Su1.at0 (by omega)))) rfl (fun _ T => Zq (rn_cell (Sp.stC0 Su1 M (List.Sublist.refl _) (hyu1 (by omega))) rfl (T.e 0 rfl))) rfl ?_; clear T ac; intro ac T
 refine Zl2 ?_
 refine Zoc (first := []) (cap := []) T rfl rfl rfl rfl evf (.cons (T.e 0 rfl) .nil) Tryz.func150 rfl rfl ?_
 refine Calls.mono (rnumber_any yu1 _ (by omega)) ?_
 clear T; rintro e wc ⟨nu3, rfl, hvu3, hb⟩ ac T
 replace M := M.call hb; clear hb
 refine Zg5 T (Zq (Zrm rfl (T.e 0 rfl))) rfl (Ze 0 rfl rfl rfl) rfl (Ze 1 rfl rfl rfl) rfl (Za 1 rfl rfl) rfl (Za 1 rfl rfl) rfl ?_; clear T ac; intro ac T
 replace T := T.pick [0, 1, 9, 10] rfl
 refine Zln ?_
 refine cut_seq (fun ac wc => Tm ac 38 [(4, .int .i64 nu2), (5, .int .i64 nu3), (6, .bool (((numS xu1).isSome) && ((numS yu1).isSome)))] ∧ Mem w noEx wc (Iu1)) ?_ ?_
 ·refine wp_region_lit ?_
  refine Zg4 T (Zq (Zrm rfl (T.e 3 rfl))) rfl (Zm 2 rfl rfl) rfl (Zm 4 rfl rfl) rfl (Zm 0 rfl rfl) rfl ?_; clear T ac; intro ac T
  rcases Bool.eq_false_or_eq_true ((numS xu1).isSome) with h2 | h2
  ·refine Zg5 T (Zw (Zwy rfl rfl (T.e 0 rfl) h2) (Zrm rfl (T.e 4 rfl))) rfl (fun _ T => Zq (Zr1 rfl (T.e 1 rfl) h2 (T.e 0 rfl))) rfl (Za 5 rfl rfl) rfl (Za 5 rfl rfl) rfl (Za 2 rfl rfl) rfl ?_; clear T ac; intro ac T
   refine wpList_nil ?_
   replace T := T.pick [0, 1, 2] rfl
   exact ⟨(T.pick (E' := [(4, .int .i64 nu2), (5, .int .i64 nu3), (6, .bool ((numS yu1).isSome))]) [2, 1, 0] rfl).as (by (try rw [show ((numS xu1).isSome) = true from h2]); (try rfl)), M.mask [] rfl⟩
  refine Zg5 T (Zp (Zwn rfl rfl (T.e 0 rfl) h2)) rfl (fun _ T => Zq (Zr0 rfl (T.e 1 rfl) h2 evc)) rfl (Za 5 rfl rfl) rfl (Za 5 rfl rfl) rfl (Za 2 rfl rfl) rfl ?_; clear T ac; intro ac T
  refine wpList_nil ?_
  replace T := T.pick [0, 1, 2] rfl
  exact ⟨(T.pick (E' := [(4, .int .i64 nu2), (5, .int .i64 nu3), (6, .bool false)]) [2, 1, 0] rfl).as (by (try rw [show ((numS xu1).isSome) = false from h2]); (try rfl)), M.mask [] rfl⟩
 clear T M
 rintro ac wc ⟨T, M⟩
 refine wp_ret ?_
 refine rt_3 T rfl (T.e 0 rfl) (T.e 1 rfl) (T.e 2 rfl) ?_
 have h2 : spl c s = [xu1, yu1] := by rw [← hlsu1]; exact two_list (by omega) (hxu1 (by omega)) (hyu1 (by omega))
 have e9 : (((numS xu1).isSome) && ((numS yu1).isSome)) = (pairR c s).isSome := two_some h2
 exact ⟨nu2, nu3, (by rw [pair_eq hc, ← e9]), (fun z hz => two_val h2 hvu2 hvu3 z (by rw [← pair_eq hc]; exact hz)), M.below⟩
theorem rhead_any (bs : Nat) (s : Sk) (A : Option Addr) (c : Nat) (Ia : List (Nat × BA)) (exq : Nat → Prop) (X : Option Addr) (cx bX oX : Nat) (ws : List (List UInt8)) (w : World) (hT : ∀ wc L, Mem w exq wc L → StrW wc) (SX : Sp w exq [] X ws.length 1 bX oX (st ws)) (hw0 : 0 < ws.length) (hw8 : ws.length ≤ 800000) (hwl : ∀ p ∈ ws, p.length ≤ 800000) (hn : s.ps.length ≤ 800000) (hsA : Sl 119 4 (.slice A s.ps.length c) s.ps.length (pc s.ps) Ia) (M0 : Mem w exq w ((bs, .cells [.int .i64 s.lo, .int .i64 s.wi, .int .i64 s.a0, .int .i64 s.a1, .int .i64 s.c0, .int .i64 s.c1, .slice A s.ps.length c]) :: Ia)) :
   Calls Tryz.prog 75 #[.pointer (some ⟨bs, 0, none⟩), .slice X ws.length cx] w (TakeS (headS ws s) w exq bs s.ps.length) := by
 obtain ⟨p0, hp0⟩ : ∃ q, ws[0]? = some q := ⟨_, List.getElem?_eq_getElem hw0⟩
 obtain ⟨p1, hp1⟩ := word_at (l := ws) 1
 have hl1 : 1 < ws.length → p1.length ≤ 800000 := fun h => hwl _ (List.mem_of_getElem? (hp1 h))
 obtain ⟨p2, hp2⟩ := word_at (l := ws) 2
 have hl2 : 2 < ws.length → p2.length ≤ 800000 := fun h => hwl _ (List.mem_of_getElem? (hp2 h))
 obtain ⟨p3, hp3⟩ := word_at (l := ws) 3
 have hl3 : 3 < ws.length → p3.length ≤ 800000 := fun h => hwl _ (List.mem_of_getElem? (hp3 h))
 refine Zpx exq Tryz.func75 rfl 70 rfl [.pointer (some ⟨bs, 0, none⟩), .slice X ws.length cx] rfl rfl M0 ?_
 intro ac wc T M
 refine Zsr ?_
 refine lq T (Zra rfl evc) ?_; clear T ac; intro ac T
 replace T := T.pick [1, 2] rfl
 refine Zln ?_
 refine wp_seq ?_
 refine cut_seq (fun ac wc => Tm ac 70 [(0, .pointer (some ⟨bs, 0, none⟩)), (1, .slice X ws.length cx), (16, .bool ((!(decide (((ws.length : Nat) : Int) = 4))) || (!(decide (p0 = ([115, 104, 101, 101, 116]))))))] ∧ Mem w exq wc ((bs, .cells [.int .i64 s.lo, .int .i64 s.wi, .int .i64 s.a0, .int .i64 s.a1, .int .i64 s.c0, .int .i64 s.c1, .slice A s.ps.length c]) :: Ia)) ?_ ?_
 ·refine wp_region_lit ?_
  refine Zg4 T (Zq (Zrm rfl (T.e 1 rfl))) rfl (Zl Tryz.underlying37 0 rfl rfl) rfl (fun _ T => Zq (rn_neq rfl (T.e 0 rfl) evc)) rfl (Zm 0 rfl rfl) rfl ?_; clear T ac; intro ac T
  rcases Bool.eq_false_or_eq_true (!(decide (((ws.length : Nat) : Int) = 4))) with h1 | h1
  ·replace h1 : ¬ (((ws.length : Nat) : Int) = 4) := by first | (rw [Bool.not_eq_true'] at h1; exact of_decide_eq_false h1) | simpa using h1
   refine Zg5 T (Zp (Zwn rfl rfl (T.e 0 rfl) (by simp [h1]))) rfl (fun _ T => Zp (Zwn rfl rfl (T.e 1 rfl) (by simp [h1]))) rfl (fun _ T => Zp (Zwn rfl rfl (T.e 2 rfl) (by simp [h1]))) rfl (fun _ T => Zp (Zwn rfl rfl (T.e 3 rfl) (by simp [h1]))) rfl (fun _ T => Zq (Zr1 rfl (T.e 4 rfl) (by simp [h1]) evc)) rfl ?_; clear T ac; intro ac T
   refine wpList_nil ?_
   replace T := T.pick [0, 9, 10] rfl
   exact ⟨(T.pick (E' := [(0, .pointer (some ⟨bs, 0, none⟩)), (1, .slice X ws.length cx), (16, .bool true)]) [1, 2, 0] rfl).as (by (try rw [show (!(decide (((ws.length : Nat) : Int) = 4))) = true from (by simp [h1])]); (try rfl)), M.mask [true] rfl⟩
  replace h1 : ((ws.length : Nat) : Int) = 4 := by first | (rw [Bool.not_eq_false'] at h1; exact of_decide_eq_true h1) | simpa using h1
  refine Zg5 T (Zw (Zwy rfl rfl (T.e 0 rfl) (by simp [h1])) (Zrm rfl (T.e 5 rfl))) rfl (fun _ T => Zw (Zwy rfl rfl (T.e 1 rfl) (by simp [h1])) (Zri (size := 1) 0 rfl (T.e 0 rfl) evc ⟨_, Tryz.underlying37, by kernel_rfl⟩ rfl (by omega) (SX.at0 (by omega)))) rfl (fun _ T => Zw (Zwy rfl rfl (T.e 2 rfl) (by simp [h1])) (rn_cell (Sp.stC0 SX M (Zz9 _) hp0) rfl (T.e 0 rfl))) rfl (fun _ T => Zw (Zwy rfl rfl (T.e 3 rfl) (by simp [h1])) (rn_sneq rfl (T.e 0 rfl) evc)) rfl (fun _ T => Zq (Zr0 rfl (T.e 4 rfl) (by simp [h1]) (T.e 0 rfl))) rfl ?_; clear T ac; intro ac T
  refine wpList_nil ?_
  replace T := T.pick [0, 9, 10] rfl
  exact ⟨(T.pick (E' := [(0, .pointer (some ⟨bs, 0, none⟩)), (1, .slice X ws.length cx), (16, .bool (!(decide (p0 = ([115, 104, 101, 101, 116])))))]) [1, 2, 0] rfl).as (by (try rw [show (!(decide (((ws.length : Nat) : Int) = 4))) = false from (by simp [h1])]); (try rfl)), M.mask [true] rfl⟩
 clear T M
 rintro ac wc ⟨T, M⟩
 refine wp_cond_split (T.e 2 rfl) ?_ ?_
 ·intro h2
  (have h2' := h2; try simp only [Zb1, Zb2, Zb3, Zb4, Zb5, Zb6, Zb7] at h2')
  refine Zsr ?_
  refine lq T (Zra rfl evc) ?_; clear T ac; intro ac T
  replace T := T.pick [0] rfl
  refine Zln ?_
  refine wp_ret ?_
  refine Zrt ?_
  refine rt_1 T rfl (T.e 0 rfl) ?_
  have hno : (headS ws s) = none := by
    have h9 := h2
    by_cases h8 : ws.length = 4
    · exact headS_word hp0 (fun e => by subst e; simp [h8, sheetW] at h9) s
    · exact headS_len h8 s
  exact TakeS.none hno (Mem.subS (L' := ((bs, .cells [.int .i64 s.lo, .int .i64 s.wi, .int .i64 s.a0, .int .i64 s.a1, .int .i64 s.c0, .int .i64 s.c1, .slice A s.ps.length c]) :: Ia)) ([]) M (fun f => by simp only [sumF_app, sumF_cons, sumF_nil, List.cons_append, List.nil_append, List.append_nil, Nat.add_zero, Nat.zero_add] <;> omega)) ⟨A, c, Ia, rfl, hsA⟩ (by omega)
 intro h2
 (have h2' := h2; try simp only [Zb1, Zb2, Zb3, Zb4, Zb5, Zb6, Zb7] at h2')
 have hc9 : ws.length = 4 ∧ p0 = sheetW := by have h9 := h2; simp only [Bool.or_eq_false_iff, Bool.not_eq_false', decide_eq_true_eq] at h9; exact ⟨by omega, h9.2⟩
 obtain ⟨hl4, hk0⟩ := hc9
 have hl1 := hl1 (by omega)
 have hl2 := hl2 (by omega)
 have hl3 := hl3 (by omega)
 refine Zsk ?_
 refine Zsr ?_
 refine Zg3 T (Zq (Zra rfl evc)) rfl (Zc rfl) rfl (Zc rfl) rfl ?_; clear T ac; intro ac T
 replace T := T.pick [3, 4] rfl
 refine Zln ?_
 refine Zsr ?_
 refine Zg5 T (Zq (Zrm rfl (T.e 0 rfl))) rfl (Zm 1 rfl rfl) rfl (Zm 3 rfl rfl) rfl (fun _ T => Zq (Zri (size := 1) 1 rfl (T.e 0 rfl) evc ⟨_, Tryz.underlying37, by kernel_rfl⟩ rfl (by omega) (SX.at0 (by omega)))) rfl (fun _ T => Zq (rn_cell (Sp.stC0 SX M (Zz9 _) (hp1 (by omega))) rfl (T.e 0 rfl))) rfl ?_; clear T ac; intro ac T
 refine Zl2 ?_
 refine Zoc (first := []) (cap := []) T rfl rfl rfl rfl evf (.cons (T.e 0 rfl) (.cons evc .nil)) Tryz.func149 rfl rfl ?_
 refine Calls.mono (rpair_any p1 120 _ (by omega) (by decide)) ?_
 clear T; rintro e wc ⟨au1, bu1, rfl, hzu1, hb⟩ ac T
 replace M := M.call hb; clear hb
 refine Zg6 (v6 := (.pointer (some ⟨bs, 0, none⟩))) T (Zq (Zrm rfl (T.e 0 rfl))) rfl (Ze 0 rfl rfl rfl) rfl (Ze 1 rfl rfl rfl) rfl (Ze 2 rfl rfl rfl) rfl (fun _ T => Zq (rn_nil rfl (T.e 9 rfl))) rfl (Zf 0 0 rfl rfl) rfl ?_; clear T ac; intro ac T
 refine Zl2 ?_
 refine Zos M T rfl rfl (T.e 0 rfl) (T.e 4 rfl) rfl .head rfl (by simp) rfl (by kernel_rfl) ?_; clear M T; intro wc ac M T
 refine Zg2 (v2 := (.pointer (some ⟨bs, 1, none⟩))) T (Zq (rn_nil rfl (T.e 10 rfl))) rfl (Zf 1 0 rfl rfl) rfl ?_; clear T ac; intro ac T
 refine Zl2 ?_
 refine Zos M T rfl rfl (T.e 0 rfl) (T.e 5 rfl) rfl .head rfl (by simp) rfl (by kernel_rfl) ?_; clear M T; intro wc ac M T
 refine lq T (Zra rfl (T.e 4 rfl)) ?_; clear T ac; intro ac T
 replace T := T.pick [0, 15, 16] rfl
 refine Zln ?_
 refine Zsr ?_
 refine Zg5 T (Zq (Zrm rfl (T.e 1 rfl))) rfl (Zm 2 rfl rfl) rfl (Zm 4 rfl rfl) rfl (fun _ T => Zq (Zri (size := 1) 2 rfl (T.e 0 rfl) evc ⟨_, Tryz.underlying37, by kernel_rfl⟩ rfl (by omega) (SX.at0 (by omega)))) rfl (fun _ T => Zq (rn_cell (Sp.stC0 SX M (Zz9 _) (hp2 (by omega))) rfl (T.e 0 rfl))) rfl ?_; clear T ac; intro ac T
 refine Zl2 ?_
 refine Zoc (first := []) (cap := []) T rfl rfl rfl rfl evf (.cons (T.e 0 rfl) (.cons evc .nil)) Tryz.func149 rfl rfl ?_
 refine Calls.mono (rpair_any p2 126 _ (by omega) (by decide)) ?_
 clear T; rintro e wc ⟨au2, bu2, rfl, hzu2, hb⟩ ac T
 replace M := M.call hb; clear hb
 refine Zg7 (v6 := (.pointer (some ⟨bs, 2, none⟩))) (v7 := (.pointer (some ⟨bs, 2, none⟩))) T (Zq (Zrm rfl (T.e 0 rfl))) rfl (Ze 0 rfl rfl rfl) rfl (Ze 1 rfl rfl rfl) rfl (Ze 2 rfl rfl rfl) rfl (fun _ T => Zq (rn_nil rfl (T.e 9 rfl))) rfl (Zf 2 0 rfl rfl) rfl (Zf 0 0 rfl rfl) rfl ?_; clear T ac; intro ac T
 refine Zl2 ?_
 refine Zos M T rfl rfl (T.e 0 rfl) (T.e 5 rfl) rfl .head rfl (by simp) rfl (by kernel_rfl) ?_; clear M T; intro wc ac M T
 refine Zg3 (v2 := (.pointer (some ⟨bs, 2, none⟩))) (v3 := (.pointer (some ⟨bs, 3, none⟩))) T (Zq (rn_nil rfl (T.e 11 rfl))) rfl (Zf 2 0 rfl rfl) rfl (Zf 1 0 rfl rfl) rfl ?_; clear T ac; intro ac T
 refine Zl2 ?_
 refine Zos M T rfl rfl (T.e 0 rfl) (T.e 7 rfl) rfl .head rfl (by simp) rfl (by kernel_rfl) ?_; clear M T; intro wc ac M T
 refine lq T (Zra rfl (T.e 6 rfl)) ?_; clear T ac; intro ac T
 replace T := T.pick [0, 17, 18, 19] rfl
 refine Zln ?_
 refine Zsr ?_
 refine Zg5 T (Zq (Zrm rfl (T.e 2 rfl))) rfl (Zm 3 rfl rfl) rfl (Zm 5 rfl rfl) rfl (fun _ T => Zq (Zri (size := 1) 3 rfl (T.e 0 rfl) evc ⟨_, Tryz.underlying37, by kernel_rfl⟩ rfl (by omega) (SX.at0 (by omega)))) rfl (fun _ T => Zq (rn_cell (Sp.stC0 SX M (Zz9 _) (hp3 (by omega))) rfl (T.e 0 rfl))) rfl ?_; clear T ac; intro ac T
 refine Zl2 ?_
 refine Zoc (first := []) (cap := []) T rfl rfl rfl rfl evf (.cons (T.e 0 rfl) (.cons evc .nil)) Tryz.func149 rfl rfl ?_
 refine Calls.mono (rpair_any p3 126 _ (by omega) (by decide)) ?_
 clear T; rintro e wc ⟨au3, bu3, rfl, hzu3, hb⟩ ac T
 replace M := M.call hb; clear hb
 refine Zg7 (v6 := (.pointer (some ⟨bs, 4, none⟩))) (v7 := (.pointer (some ⟨bs, 4, none⟩))) T (Zq (Zrm rfl (T.e 0 rfl))) rfl (Ze 0 rfl rfl rfl) rfl (Ze 1 rfl rfl rfl) rfl (Ze 2 rfl rfl rfl) rfl (fun _ T => Zq (rn_nil rfl (T.e 9 rfl))) rfl (Zf 4 0 rfl rfl) rfl (Zf 0 0 rfl rfl) rfl ?_; clear T ac; intro ac T
 refine Zl2 ?_
 refine Zos M T rfl rfl (T.e 0 rfl) (T.e 5 rfl) rfl .head rfl (by simp) rfl (by kernel_rfl) ?_; clear M T; intro wc ac M T
 refine Zg3 (v2 := (.pointer (some ⟨bs, 4, none⟩))) (v3 := (.pointer (some ⟨bs, 5, none⟩))) T (Zq (rn_nil rfl (T.e 11 rfl))) rfl (Zf 4 0 rfl rfl) rfl (Zf 1 0 rfl rfl) rfl ?_; clear T ac; intro ac T
 refine Zl2 ?_
 refine Zos M T rfl rfl (T.e 0 rfl) (T.e 7 rfl) rfl .head rfl (by simp) rfl (by kernel_rfl) ?_; clear M T; intro wc ac M T
 refine lq T (Zra rfl (T.e 6 rfl)) ?_; clear T ac; intro ac T
 replace T := T.pick [0, 17, 18] rfl
 refine Zln ?_
 refine cut_seq (fun ac wc => Tm ac 70 [(4, .bool (((pairS 120 p1).isSome) && (((pairS 126 p2).isSome) && ((pairS 126 p3).isSome))))] ∧ Mem w exq wc ((bs, .cells [.int .i64 au1, .int .i64 bu1, .int .i64 au2, .int .i64 bu2, .int .i64 au3, .int .i64 bu3, .slice A s.ps.length c]) :: Ia)) ?_ ?_
 ·refine wp_region_lit ?_
  refine Zg2 T (Zq (Zrm rfl (T.e 2 rfl))) rfl (Zm 0 rfl rfl) rfl ?_; clear T ac; intro ac T
  rcases Bool.eq_false_or_eq_true ((pairS 120 p1).isSome) with h3 | h3
  ·refine Zg3 T (Zw (Zwy rfl rfl (T.e 0 rfl) h3) (Zrm rfl (T.e 3 rfl))) rfl (fun _ T => Zq (Zr1 rfl (T.e 1 rfl) h3 (T.e 0 rfl))) rfl (Zm 0 rfl rfl) rfl ?_; clear T ac; intro ac T
   rcases Bool.eq_false_or_eq_true ((pairS 126 p2).isSome) with h4 | h4
   ·refine Zg3 T (Zw (Zwy rfl rfl (T.e 0 rfl) h4) (Zrm rfl (T.e 5 rfl))) rfl (fun _ T => Zq (Zr1 rfl (T.e 1 rfl) h4 (T.e 0 rfl))) rfl (Za 0 rfl rfl) rfl ?_; clear T ac; intro ac T
    refine wpList_nil ?_
    replace T := T.pick [0] rfl
    exact ⟨(T.pick (E' := [(4, .bool ((pairS 126 p3).isSome))]) [0] rfl).as (by (try rw [show ((pairS 120 p1).isSome) = true from h3]); (try rw [show ((pairS 126 p2).isSome) = true from h4]); (try rfl)), M.mask [true] rfl⟩
   refine Zg3 T (Zp (Zwn rfl rfl (T.e 0 rfl) h4)) rfl (fun _ T => Zq (Zr0 rfl (T.e 1 rfl) h4 evc)) rfl (Za 0 rfl rfl) rfl ?_; clear T ac; intro ac T
   refine wpList_nil ?_
   replace T := T.pick [0] rfl
   exact ⟨(T.pick (E' := [(4, .bool false)]) [0] rfl).as (by (try rw [show ((pairS 120 p1).isSome) = true from h3]); (try rw [show ((pairS 126 p2).isSome) = false from h4]); (try rfl)), M.mask [true] rfl⟩
  refine Zg6 T (Zp (Zwn rfl rfl (T.e 0 rfl) h3)) rfl (fun _ T => Zq (Zr0 rfl (T.e 1 rfl) h3 evc)) rfl (Zm 0 rfl rfl) rfl (fun _ T => Zp (Zwn rfl rfl (T.e 0 rfl) rfl)) rfl (fun _ T => Zq (Zr0 rfl (T.e 1 rfl) rfl evc)) rfl (Za 0 rfl rfl) rfl ?_; clear T ac; intro ac T
  refine wpList_nil ?_
  replace T := T.pick [0] rfl
  exact ⟨(T.pick (E' := [(4, .bool false)]) [0] rfl).as (by (try rw [show ((pairS 120 p1).isSome) = false from h3]); (try rfl)), M.mask [true] rfl⟩
 clear T M
 rintro ac wc ⟨T, M⟩
 refine wp_ret ?_
 refine rt_1 T rfl (T.e 0 rfl) ?_
 have hf : ws = [sheetW, p1, p2, p3] := by rw [← hk0]; exact four_list (by omega) hp0 hp1 hp2 hp3
 have ho : (headS ws s) = headS [sheetW, p1, p2, p3] s := by rw [hf]
 have e9 : (((pairS 120 p1).isSome) && (((pairS 126 p2).isSome) && ((pairS 126 p3).isSome))) = (headS [sheetW, p1, p2, p3] s).isSome := head_some s
 exact ⟨by rw [ho, ← e9], ({ s with lo := au1, wi := bu1, a0 := au2, a1 := bu2, c0 := au3, c1 := bu3 } : Sk), (bs, .cells [.int .i64 au1, .int .i64 bu1, .int .i64 au2, .int .i64 bu2, .int .i64 au3, .int .i64 bu3, .slice A s.ps.length c]) :: Ia, (Mem.subS (L' := ((bs, .cells [.int .i64 au1, .int .i64 bu1, .int .i64 au2, .int .i64 bu2, .int .i64 au3, .int .i64 bu3, .slice A s.ps.length c]) :: Ia)) ([]) M (fun f => by simp only [sumF_app, sumF_cons, sumF_nil, List.cons_append, List.nil_append, List.append_nil, Nat.add_zero, Nat.zero_add] <;> omega)), ⟨A, c, Ia, rfl, hsA⟩, (by show s.ps.length ≤ _; omega), fun t ht => head_val hzu1 hzu2 hzu3 t (by rw [← ho]; exact ht)⟩
theorem rblank_any (bs : Nat) (s : Sk) (A : Option Addr) (c : Nat) (Ia : List (Nat × BA)) (exq : Nat → Prop) (X : Option Addr) (cx bX oX : Nat) (ws : List (List UInt8)) (w : World) (hT : ∀ wc L, Mem w exq wc L → StrW wc) (SX : Sp w exq [] X ws.length 1 bX oX (st ws)) (hw0 : 0 < ws.length) (hw8 : ws.length ≤ 800000) (hwl : ∀ p ∈ ws, p.length ≤ 800000) (hn : s.ps.length ≤ 800000) (hsA : Sl 119 4 (.slice A s.ps.length c) s.ps.length (pc s.ps) Ia) (M0 : Mem w exq w ((bs, .cells [.int .i64 s.lo, .int .i64 s.wi, .int .i64 s.a0, .int .i64 s.a1, .int .i64 s.c0, .int .i64 s.c1, .slice A s.ps.length c]) :: Ia)) :
   Calls Tryz.prog 76 #[.pointer (some ⟨bs, 0, none⟩), .slice X ws.length cx] w (TakeS (partS ws s) w exq bs s.ps.length) := by
 obtain ⟨p0, hp0⟩ : ∃ q, ws[0]? = some q := ⟨_, List.getElem?_eq_getElem hw0⟩
 obtain ⟨p1, hp1⟩ := word_at (l := ws) 1
 have hl1 : 1 < ws.length → p1.length ≤ 800000 := fun h => hwl _ (List.mem_of_getElem? (hp1 h))
 obtain ⟨p2, hp2⟩ := word_at (l := ws) 2
 have hl2 : 2 < ws.length → p2.length ≤ 800000 := fun h => hwl _ (List.mem_of_getElem? (hp2 h))
 obtain ⟨p3, hp3⟩ := word_at (l := ws) 3
 have hl3 : 3 < ws.length → p3.length ≤ 800000 := fun h => hwl _ (List.mem_of_getElem? (hp3 h))
 refine Zpx exq Tryz.func76 rfl 67 rfl [.pointer (some ⟨bs, 0, none⟩), .slice X ws.length cx] rfl rfl M0 ?_
 intro ac wc T M
 refine Zsr ?_
 refine lq T (Zra rfl evc) ?_; clear T ac; intro ac T
 replace T := T.pick [1, 2] rfl
 refine Zln ?_
 refine wp_seq ?_
 refine cut_seq (fun ac wc => Tm ac 67 [(0, .pointer (some ⟨bs, 0, none⟩)), (1, .slice X ws.length cx), (30, .bool ((!(decide (((ws.length : Nat) : Int) = 4))) || ((!(decide (p0 = ([98, 108, 97, 110, 107])))) || ((!(decide (p2 = ([97, 110, 121])))) && (!(decide (p2 = ([103, 114, 97, 105, 110]))))))))] ∧ Mem w exq wc ((bs, .cells [.int .i64 s.lo, .int .i64 s.wi, .int .i64 s.a0, .int .i64 s.a1, .int .i64 s.c0, .int .i64 s.c1, .slice A s.ps.length c]) :: Ia)) ?_ ?_
 ·refine wp_region_lit ?_
  refine Zg4 T (Zq (Zrm rfl (T.e 1 rfl))) rfl (Zl Tryz.underlying37 0 rfl rfl) rfl (fun _ T => Zq (rn_neq rfl (T.e 0 rfl) evc)) rfl (Zm 0 rfl rfl) rfl ?_; clear T ac; intro ac T
  rcases Bool.eq_false_or_eq_true (!(decide (((ws.length : Nat) : Int) = 4))) with h1 | h1
  ·replace h1 : ¬ (((ws.length : Nat) : Int) = 4) := by first | (rw [Bool.not_eq_true'] at h1; exact of_decide_eq_false h1) | simpa using h1
   refine Zg8 T (Zp (Zwn rfl rfl (T.e 0 rfl) (by simp [h1]))) rfl (fun _ T => Zp (Zwn rfl rfl (T.e 1 rfl) (by simp [h1]))) rfl (fun _ T => Zp (Zwn rfl rfl (T.e 2 rfl) (by simp [h1]))) rfl (fun _ T => Zp (Zwn rfl rfl (T.e 3 rfl) (by simp [h1]))) rfl (fun _ T => Zq (Zr1 rfl (T.e 4 rfl) (by simp [h1]) evc)) rfl (Zm 0 rfl rfl) rfl (fun _ T => Zp (Zwn rfl rfl (T.e 0 rfl) rfl)) rfl (fun _ T => Zp (Zwn rfl rfl (T.e 1 rfl) rfl)) rfl ?_; clear T ac; intro ac T
   refine Zg8 T (Zp (Zwn rfl rfl (T.e 2 rfl) rfl)) rfl (fun _ T => Zp (Zwn rfl rfl (T.e 3 rfl) rfl)) rfl (fun _ T => Zp (Zwn rfl rfl (T.e 4 rfl) rfl)) rfl (fun _ T => Zp (Zwu rfl rfl (T.e 0 rfl))) rfl (fun _ T => Zp (Zwu rfl rfl (T.e 1 rfl))) rfl (fun _ T => Zp (Zwu rfl rfl (T.e 2 rfl))) rfl (fun _ T => Zp (Zwu rfl rfl (T.e 3 rfl))) rfl (fun _ T => Zp (Zwn rfl rfl (T.e 9 rfl) rfl)) rfl ?_; clear T ac; intro ac T
   refine lq T (Zr1 rfl (T.e 10 rfl) rfl evc) ?_; clear T ac; intro ac T
   refine wpList_nil ?_
   replace T := T.pick [0, 21, 22] rfl
   exact ⟨(T.pick (E' := [(0, .pointer (some ⟨bs, 0, none⟩)), (1, .slice X ws.length cx), (30, .bool true)]) [1, 2, 0] rfl).as (by (try rw [show (!(decide (((ws.length : Nat) : Int) = 4))) = true from (by simp [h1])]); (try rfl)), M.mask [true] rfl⟩
  replace h1 : ((ws.length : Nat) : Int) = 4 := by first | (rw [Bool.not_eq_false'] at h1; exact of_decide_eq_true h1) | simpa using h1
  refine Zg6 T (Zw (Zwy rfl rfl (T.e 0 rfl) (by simp [h1])) (Zrm rfl (T.e 5 rfl))) rfl (fun _ T => Zw (Zwy rfl rfl (T.e 1 rfl) (by simp [h1])) (Zri (size := 1) 0 rfl (T.e 0 rfl) evc ⟨_, Tryz.underlying37, by kernel_rfl⟩ rfl (by omega) (SX.at0 (by omega)))) rfl (fun _ T => Zw (Zwy rfl rfl (T.e 2 rfl) (by simp [h1])) (rn_cell (Sp.stC0 SX M (Zz9 _) hp0) rfl (T.e 0 rfl))) rfl (fun _ T => Zw (Zwy rfl rfl (T.e 3 rfl) (by simp [h1])) (rn_sneq rfl (T.e 0 rfl) evc)) rfl (fun _ T => Zq (Zr0 rfl (T.e 4 rfl) (by simp [h1]) (T.e 0 rfl))) rfl (Zm 0 rfl rfl) rfl ?_; clear T ac; intro ac T
  rcases Bool.eq_false_or_eq_true (!(decide (p0 = ([98, 108, 97, 110, 107])))) with h2 | h2
  ·replace h2 : ¬ (p0 = ([98, 108, 97, 110, 107])) := by first | (rw [Bool.not_eq_true'] at h2; exact of_decide_eq_false h2) | simpa using h2
   refine Zg8 T (Zp (Zwn rfl rfl (T.e 0 rfl) (by simp [h2]))) rfl (fun _ T => Zp (Zwn rfl rfl (T.e 1 rfl) (by simp [h2]))) rfl (fun _ T => Zp (Zwn rfl rfl (T.e 2 rfl) (by simp [h2]))) rfl (fun _ T => Zp (Zwn rfl rfl (T.e 3 rfl) (by simp [h2]))) rfl (fun _ T => Zp (Zwn rfl rfl (T.e 4 rfl) (by simp [h2]))) rfl (fun _ T => Zp (Zwu rfl rfl (T.e 0 rfl))) rfl (fun _ T => Zp (Zwu rfl rfl (T.e 1 rfl))) rfl (fun _ T => Zp (Zwu rfl rfl (T.e 2 rfl))) rfl ?_; clear T ac; intro ac T
   refine Zg3 T (Zp (Zwu rfl rfl (T.e 3 rfl))) rfl (fun _ T => Zp (Zwn rfl rfl (T.e 9 rfl) (by simp [h2]))) rfl (fun _ T => Zq (Zr1 rfl (T.e 10 rfl) (by simp [h2]) evc)) rfl ?_; clear T ac; intro ac T
   refine wpList_nil ?_
   replace T := T.pick [0, 21, 22] rfl
   exact ⟨(T.pick (E' := [(0, .pointer (some ⟨bs, 0, none⟩)), (1, .slice X ws.length cx), (30, .bool true)]) [1, 2, 0] rfl).as (by (try rw [show (!(decide (((ws.length : Nat) : Int) = 4))) = false from (by simp [h1])]); (try rw [show (!(decide (p0 = ([98, 108, 97, 110, 107])))) = true from (by simp [h2])]); (try rfl)), M.mask [true] rfl⟩
  replace h2 : p0 = ([98, 108, 97, 110, 107]) := by first | (rw [Bool.not_eq_false'] at h2; exact of_decide_eq_true h2) | simpa using h2
  refine Zg5 T (Zw (Zwy rfl rfl (T.e 0 rfl) (by simp [h2])) (Zrm rfl (T.e 11 rfl))) rfl (fun _ T => Zw (Zwy rfl rfl (T.e 1 rfl) (by simp [h2])) (Zri (size := 1) 2 rfl (T.e 0 rfl) evc ⟨_, Tryz.underlying37, by kernel_rfl⟩ rfl (by omega) (SX.at0 (by omega)))) rfl (fun _ T => Zw (Zwy rfl rfl (T.e 2 rfl) (by simp [h2])) (rn_cell (Sp.stC0 SX M (Zz9 _) (hp2 (by omega))) rfl (T.e 0 rfl))) rfl (fun _ T => Zw (Zwy rfl rfl (T.e 3 rfl) (by simp [h2])) (rn_sneq rfl (T.e 0 rfl) evc)) rfl (fun _ T => Zw (Zwy rfl rfl (T.e 4 rfl) (by simp [h2])) (Zrm rfl (T.e 0 rfl))) rfl ?_; clear T ac; intro ac T
  rcases Bool.eq_false_or_eq_true (!(decide (p2 = ([97, 110, 121])))) with h3 | h3
  ·replace h3 : ¬ (p2 = ([97, 110, 121])) := by first | (rw [Bool.not_eq_true'] at h3; exact of_decide_eq_false h3) | simpa using h3
   refine Zg6 T (Zw (Zwy rfl rfl (T.e 0 rfl) (by simp [h3])) (Zrm rfl (T.e 16 rfl))) rfl (fun _ T => Zw (Zwy rfl rfl (T.e 1 rfl) (by simp [h3])) (Zri (size := 1) 2 rfl (T.e 0 rfl) evc ⟨_, Tryz.underlying37, by kernel_rfl⟩ rfl (by omega) (SX.at0 (by omega)))) rfl (fun _ T => Zw (Zwy rfl rfl (T.e 2 rfl) (by simp [h3])) (rn_cell (Sp.stC0 SX M (Zz9 _) (hp2 (by omega))) rfl (T.e 0 rfl))) rfl (fun _ T => Zw (Zwy rfl rfl (T.e 3 rfl) (by simp [h3])) (rn_sneq rfl (T.e 0 rfl) evc)) rfl (fun _ T => Zw (Zwy rfl rfl (T.e 9 rfl) (by simp [h2])) (Zr1 rfl (T.e 4 rfl) (by simp [h3]) (T.e 0 rfl))) rfl (fun _ T => Zq (Zr0 rfl (T.e 10 rfl) (by simp [h2]) (T.e 0 rfl))) rfl ?_; clear T ac; intro ac T
   refine wpList_nil ?_
   replace T := T.pick [0, 21, 22] rfl
   exact ⟨(T.pick (E' := [(0, .pointer (some ⟨bs, 0, none⟩)), (1, .slice X ws.length cx), (30, .bool (!(decide (p2 = ([103, 114, 97, 105, 110])))))]) [1, 2, 0] rfl).as (by (try rw [show (!(decide (((ws.length : Nat) : Int) = 4))) = false from (by simp [h1])]); (try rw [show (!(decide (p0 = ([98, 108, 97, 110, 107])))) = false from (by simp [h2])]); (try rw [show (!(decide (p2 = ([97, 110, 121])))) = true from (by simp [h3])]); (try rfl)), M.mask [true] rfl⟩
  replace h3 : p2 = ([97, 110, 121]) := by first | (rw [Bool.not_eq_false'] at h3; exact of_decide_eq_true h3) | simpa using h3
  refine Zg6 T (Zp (Zwn rfl rfl (T.e 0 rfl) (by simp [h3]))) rfl (fun _ T => Zp (Zwn rfl rfl (T.e 1 rfl) (by simp [h3]))) rfl (fun _ T => Zp (Zwn rfl rfl (T.e 2 rfl) (by simp [h3]))) rfl (fun _ T => Zp (Zwn rfl rfl (T.e 3 rfl) (by simp [h3]))) rfl (fun _ T => Zw (Zwy rfl rfl (T.e 9 rfl) (by simp [h2])) (Zr0 rfl (T.e 4 rfl) (by simp [h3]) evc)) rfl (fun _ T => Zq (Zr0 rfl (T.e 10 rfl) (by simp [h2]) (T.e 0 rfl))) rfl ?_; clear T ac; intro ac T
  refine wpList_nil ?_
  replace T := T.pick [0, 21, 22] rfl
  exact ⟨(T.pick (E' := [(0, .pointer (some ⟨bs, 0, none⟩)), (1, .slice X ws.length cx), (30, .bool false)]) [1, 2, 0] rfl).as (by (try rw [show (!(decide (((ws.length : Nat) : Int) = 4))) = false from (by simp [h1])]); (try rw [show (!(decide (p0 = ([98, 108, 97, 110, 107])))) = false from (by simp [h2])]); (try rw [show (!(decide (p2 = ([97, 110, 121])))) = false from (by simp [h3])]); (try rfl)), M.mask [true] rfl⟩
 clear T M
 rintro ac wc ⟨T, M⟩
 refine wp_cond_split (T.e 2 rfl) ?_ ?_
 ·intro h4
  (have h4' := h4; try simp only [Zb1, Zb2, Zb3, Zb4, Zb5, Zb6, Zb7] at h4')
  refine Zsr ?_
  refine lq T (Zra rfl evc) ?_; clear T ac; intro ac T
  replace T := T.pick [0] rfl
  refine Zln ?_
  refine wp_ret ?_
  refine Zrt ?_
  refine rt_1 T rfl (T.e 0 rfl) ?_
  have hno : (partS ws s) = none := by
    have h9 := h4
    by_cases h8 : ws.length = 4
    · by_cases h7 : p0 = blankW
      · have hf : ws = [p0, p1, p2, p3] := four_list h8 hp0 hp1 hp2 hp3
        rw [hf]
        exact partS_kind (fun e => by subst e; simp [h7, h8, blankW, anyW] at h9) (fun e => by subst e; simp [h7, h8, blankW, grainW] at h9) _ _
      · exact partS_word hp0 h7 s
    · exact partS_len h8 s
  exact TakeS.none hno (Mem.subS (L' := ((bs, .cells [.int .i64 s.lo, .int .i64 s.wi, .int .i64 s.a0, .int .i64 s.a1, .int .i64 s.c0, .int .i64 s.c1, .slice A s.ps.length c]) :: Ia)) ([]) M (fun f => by simp only [sumF_app, sumF_cons, sumF_nil, List.cons_append, List.nil_append, List.append_nil, Nat.add_zero, Nat.zero_add] <;> omega)) ⟨A, c, Ia, rfl, hsA⟩ (by omega)
 intro h4
 (have h4' := h4; try simp only [Zb1, Zb2, Zb3, Zb4, Zb5, Zb6, Zb7] at h4')
 have hc9 : ws.length = 4 ∧ p0 = blankW ∧ (p2 = anyW ∨ p2 = grainW) := by have h9 := h4; simp only [Bool.or_eq_false_iff, Bool.not_eq_false', Bool.and_eq_false_iff, decide_eq_true_eq] at h9; exact ⟨by omega, h9.2.1, h9.2.2⟩
 obtain ⟨hl4, hk0, hc3⟩ := hc9
 have hl1 := hl1 (by omega)
 have hl2 := hl2 (by omega)
 have hl3 := hl3 (by omega)
 refine Zsk ?_
 refine Zsr ?_
 refine Zg3 T (Zq (Zrm rfl (T.e 1 rfl))) rfl (fun _ T => Zq (Zri (size := 1) 1 rfl (T.e 0 rfl) evc ⟨_, Tryz.underlying37, by kernel_rfl⟩ rfl (by omega) (SX.at0 (by omega)))) rfl (fun _ T => Zq (rn_cell (Sp.stC0 SX M (Zz9 _) (hp1 (by omega))) rfl (T.e 0 rfl))) rfl ?_; clear T ac; intro ac T
 refine Zl2 ?_
 refine Zoc (first := []) (cap := []) T rfl rfl rfl rfl evf (.cons (T.e 0 rfl) (.cons evc .nil)) Tryz.func149 rfl rfl ?_
 refine Calls.mono (rpair_any p1 120 _ (by omega) (by decide)) ?_
 clear T; rintro e wc ⟨au1, bu1, rfl, hzu1, hb⟩ ac T
 replace M := M.call hb; clear hb
 refine Zg7 T (Zq (Zrm rfl (T.e 0 rfl))) rfl (Ze 0 rfl rfl rfl) rfl (Ze 1 rfl rfl rfl) rfl (Ze 2 rfl rfl rfl) rfl (Za 2 rfl rfl) rfl (Za 2 rfl rfl) rfl (Za 2 rfl rfl) rfl ?_; clear T ac; intro ac T
 replace T := T.pick [0, 1, 2, 11, 12] rfl
 refine Zln ?_
 refine Zsr ?_
 refine Zg3 T (Zq (Zrm rfl (T.e 4 rfl))) rfl (fun _ T => Zq (Zri (size := 1) 3 rfl (T.e 0 rfl) evc ⟨_, Tryz.underlying37, by kernel_rfl⟩ rfl (by omega) (SX.at0 (by omega)))) rfl (fun _ T => Zq (rn_cell (Sp.stC0 SX M (Zz9 _) (hp3 (by omega))) rfl (T.e 0 rfl))) rfl ?_; clear T ac; intro ac T
 refine Zl2 ?_
 refine Zoc (first := []) (cap := []) T rfl rfl rfl rfl evf (.cons (T.e 0 rfl) .nil) Tryz.func150 rfl rfl ?_
 refine Calls.mono (rnumber_any p3 _ (by omega)) ?_
 clear T; rintro e wc ⟨nu2, rfl, hvu2, hb⟩ ac T
 replace M := M.call hb; clear hb
 refine Zg5 T (Zq (Zrm rfl (T.e 0 rfl))) rfl (Ze 0 rfl rfl rfl) rfl (Ze 1 rfl rfl rfl) rfl (Za 1 rfl rfl) rfl (Za 1 rfl rfl) rfl ?_; clear T ac; intro ac T
 replace T := T.pick [0, 1, 9, 10, 11, 12, 13] rfl
 refine Zln ?_
 refine wp_seq ?_
 refine Zgs M (M.perm [] rfl rfl) 18 (by kernel_rfl) rfl (by kernel_rfl) ?_
 clear M; intro wc M
 refine g_addG 17 (M.perm [0] rfl rfl) ?_
 refine gq T 0 1 rfl (fun _ _ _ _ _ => (Zrm rfl (T.e 5 rfl))) ?_; clear T ac; intro ac T
 refine gq T 1 3 rfl (fun _ _ _ _ _ => (Zrm rfl (T.e 6 rfl))) ?_; clear T ac; intro ac T
 refine gq T 2 7 rfl (fun _ _ _ _ _ => (rn_nil rfl (T.e 0 rfl))) ?_; clear T ac; intro ac T
 refine gq (v := (.pointer (some ⟨bs, 6, none⟩))) T 3 15 rfl (fun _ _ _ _ _ => (Zrf (off := 6) rfl (T.e 0 rfl) (fun _ _ _ => by kernel_rfl))) ?_; clear T ac; intro ac T
 refine gq T 4 31 rfl (fun B w' hD hl hS => (Zro (Mem.nth (show Mem w exq w' _ from ((MA.lft hS) (hD.wait (i := 4) (m := 17) (by kernel_rfl) hl))) 0 rfl) rfl (T.e 0 rfl) rfl)) ?_; clear T ac; intro ac T
 refine gq T 5 63 rfl (fun _ _ _ _ _ => (Zrm rfl (T.e 9 rfl))) ?_; clear T ac; intro ac T
 refine gq T 6 127 rfl (fun _ _ _ _ _ => (Zrm rfl (T.e 9 rfl))) ?_; clear T ac; intro ac T
 refine gq T 7 255 rfl (fun _ _ _ _ _ => (Zrm rfl (T.e 13 rfl))) ?_; clear T ac; intro ac T
 refine gq T 8 511 rfl (fun _ _ _ _ _ => (Zri (size := 1) 2 rfl (T.e 0 rfl) evc ⟨_, Tryz.underlying37, by kernel_rfl⟩ rfl (by omega) (SX.at0 (by omega)))) ?_; clear T ac; intro ac T
 refine gq T 9 1023 rfl (fun B w' hD hl hS => (rn_cell (Sp.stC0 SX (show Mem w exq w' _ from ((MA.lft hS) (hD.wait (i := 9) (m := 17) (by kernel_rfl) hl))) (Zz9 _) (hp2 (by omega))) rfl (T.e 0 rfl))) ?_; clear T ac; intro ac T
 refine gq T 10 2047 rfl (fun _ _ _ _ _ => (rn_seql rfl (T.e 0 rfl) evc)) ?_; clear T ac; intro ac T
 refine gq T 11 4095 rfl (fun _ _ _ _ _ => (Zrm rfl (T.e 12 rfl))) ?_; clear T ac; intro ac T
 refine gq (v := (.agg #[.int .i64 au1, .int .i64 bu1, .bool (decide (p2 = ([103, 114, 97, 105, 110]))), .int .i64 nu2])) T 12 8191 rfl (fun _ _ _ _ _ => (rn_build rfl (.cons (T.e 6 rfl) (.cons (T.e 5 rfl) (.cons (T.e 1 rfl) (.cons (T.e 0 rfl) .nil)))) (fun _ => by kernel_rfl))) ?_; clear T ac; intro ac T
 refine gw 13 16383 ?_; intro K hK
 refine ow_bs (e := 119) [.int .i64 au1, .int .i64 bu1, .bool (decide (p2 = ([103, 114, 97, 105, 110]))), .int .i64 nu2] M T rfl rfl rfl rfl (.cons (T.e 0 rfl) .nil) (fun _ => by kernel_rfl) ?_; clear M T; intro g1 wc ac M T
 refine Zso hK _ _ (MA.mk (fun _ => M.perm [1] rfl rfl) (M.perm [] rfl rfl)) ?_; clear hK K
 refine gw 14 32767 ?_; intro K hK
 refine ow_app ([(g1, .cells [.int .i64 au1, .int .i64 bu1, .bool (decide (p2 = ([103, 114, 97, 105, 110]))), .int .i64 nu2]), (bs, .cells [.int .i64 s.lo, .int .i64 s.wi, .int .i64 s.a0, .int .i64 s.a1, .int .i64 s.c0, .int .i64 s.c1, .slice A s.ps.length c])]) Tryz.info119 hsA M (by first | rfl | simp) T rfl rfl rfl rfl Tryz.underlying47 rfl rfl rfl (by omega) (T.e 9 rfl) (T.e 0 rfl) (Zne (i := 0) rfl) rfl rfl ?_; clear M T; intro ga1 cga1 wc ac M T
 refine Zso hK _ _ (MA.mk (fun _ => M.mask [false, false, true] rfl) (M.mask [false, false, false] rfl)) ?_; clear hK K
 refine gq T 15 65535 rfl (fun _ _ _ _ _ => (rn_nil rfl (T.e 14 rfl))) ?_; clear T ac; intro ac T
 refine gq (v := (.pointer (some ⟨bs, 6, none⟩))) T 16 131071 rfl (fun _ _ _ _ _ => (Zrf (off := 6) rfl (T.e 0 rfl) (fun _ _ _ => by kernel_rfl))) ?_; clear T ac; intro ac T
 refine gw 17 262143 ?_; intro K hK
 refine Zos M T rfl rfl (T.e 0 rfl) (T.e 2 rfl) rfl (.tail (.tail .head)) rfl (by simp) rfl (by kernel_rfl) ?_; clear M T; intro wc ac M T
 refine Zso hK _ _ (MA.mk (fun h => (no_of (by kernel_rfl) h).elim) (M.mask [false, false, false] rfl)) ?_; clear hK K
 refine Zgd (by kernel_rfl) ?_
 replace T := T.pick [17, 19] rfl
 replace M := M.mask [true, false, true] rfl
 refine nm_then ?_
 refine cut_seq (fun ac wc => Tm ac 67 [(4, .bool (((pairS 120 p1).isSome) && ((numS p3).isSome)))] ∧ Mem w exq wc [(ga1, .row 119 4 (s.ps.length + 1) ((pc s.ps) ++ [.int .i64 au1, .int .i64 bu1, .bool (decide (p2 = ([103, 114, 97, 105, 110]))), .int .i64 nu2]) cga1), (bs, .cells [.int .i64 s.lo, .int .i64 s.wi, .int .i64 s.a0, .int .i64 s.a1, .int .i64 s.c0, .int .i64 s.c1, .slice (some ⟨ga1, 0, none⟩) (s.ps.length + 1) cga1])]) ?_ ?_
 ·refine wp_region_lit ?_
  refine Zg2 T (Zq (Zrm rfl (T.e 1 rfl))) rfl (Zm 0 rfl rfl) rfl ?_; clear T ac; intro ac T
  rcases Bool.eq_false_or_eq_true ((pairS 120 p1).isSome) with h5 | h5
  ·refine Zg3 T (Zw (Zwy rfl rfl (T.e 0 rfl) h5) (Zrm rfl (T.e 2 rfl))) rfl (fun _ T => Zq (Zr1 rfl (T.e 1 rfl) h5 (T.e 0 rfl))) rfl (Za 0 rfl rfl) rfl ?_; clear T ac; intro ac T
   refine wpList_nil ?_
   replace T := T.pick [0] rfl
   exact ⟨(T.pick (E' := [(4, .bool ((numS p3).isSome))]) [0] rfl).as (by (try rw [show ((pairS 120 p1).isSome) = true from h5]); (try rfl)), M.mask [true, true] rfl⟩
  refine Zg3 T (Zp (Zwn rfl rfl (T.e 0 rfl) h5)) rfl (fun _ T => Zq (Zr0 rfl (T.e 1 rfl) h5 evc)) rfl (Za 0 rfl rfl) rfl ?_; clear T ac; intro ac T
  refine wpList_nil ?_
  replace T := T.pick [0] rfl
  exact ⟨(T.pick (E' := [(4, .bool false)]) [0] rfl).as (by (try rw [show ((pairS 120 p1).isSome) = false from h5]); (try rfl)), M.mask [true, true] rfl⟩
 clear T M
 rintro ac wc ⟨T, M⟩
 refine wp_ret ?_
 refine rt_1 T rfl (T.e 0 rfl) ?_
 have hf : ws = [blankW, p1, p2, p3] := by rw [← hk0]; exact four_list (by omega) hp0 hp1 hp2 hp3
 have ho : (partS ws s) = partS [blankW, p1, p2, p3] s := by rw [hf]
 have hq9 : (p2 = anyW ∧ (decide (p2 = ([103, 114, 97, 105, 110]))) = false) ∨ (p2 = grainW ∧ (decide (p2 = ([103, 114, 97, 105, 110]))) = true) := by exact hc3.elim (fun h8 => .inl ⟨h8, by subst h8; decide⟩) (fun h8 => .inr ⟨h8, by subst h8; decide⟩)
 have e7 : (((pairS 120 p1).isSome) && ((numS p3).isSome)) = (partS [blankW, p1, p2, p3] s).isSome := part_some hq9 s
 have e9 : s.ps.length + 1 = (s.ps ++ [(⟨au1, bu1, (decide (p2 = ([103, 114, 97, 105, 110]))), nu2⟩ : Pt)]).length := by simp
 have e8 : ((pc s.ps) ++ [.int .i64 au1, .int .i64 bu1, .bool (decide (p2 = ([103, 114, 97, 105, 110]))), .int .i64 nu2]) = pc (s.ps ++ [(⟨au1, bu1, (decide (p2 = ([103, 114, 97, 105, 110]))), nu2⟩ : Pt)]) := by first | rw [pc_snoc] | rw [← pc_snoc] | simp [pc, ptC]
 rw [e9, e8] at M
 exact ⟨by rw [ho, ← e7], ({ s with ps := (s.ps ++ [(⟨au1, bu1, (decide (p2 = ([103, 114, 97, 105, 110]))), nu2⟩ : Pt)]) } : Sk), (bs, .cells [.int .i64 s.lo, .int .i64 s.wi, .int .i64 s.a0, .int .i64 s.a1, .int .i64 s.c0, .int .i64 s.c1, .slice (some ⟨ga1, 0, none⟩) ((s.ps ++ [(⟨au1, bu1, (decide (p2 = ([103, 114, 97, 105, 110]))), nu2⟩ : Pt)]).length) cga1]) :: [(ga1, .row 119 4 (s.ps ++ [(⟨au1, bu1, (decide (p2 = ([103, 114, 97, 105, 110]))), nu2⟩ : Pt)]).length (pc (s.ps ++ [(⟨au1, bu1, (decide (p2 = ([103, 114, 97, 105, 110]))), nu2⟩ : Pt)])) cga1)], (Mem.subS (L' := [(bs, .cells [.int .i64 s.lo, .int .i64 s.wi, .int .i64 s.a0, .int .i64 s.a1, .int .i64 s.c0, .int .i64 s.c1, .slice (some ⟨ga1, 0, none⟩) ((s.ps ++ [(⟨au1, bu1, (decide (p2 = ([103, 114, 97, 105, 110]))), nu2⟩ : Pt)]).length) cga1]), (ga1, .row 119 4 (s.ps ++ [(⟨au1, bu1, (decide (p2 = ([103, 114, 97, 105, 110]))), nu2⟩ : Pt)]).length (pc (s.ps ++ [(⟨au1, bu1, (decide (p2 = ([103, 114, 97, 105, 110]))), nu2⟩ : Pt)])) cga1)]) ([]) M (fun f => by simp only [sumF_app, sumF_cons, sumF_nil, List.cons_append, List.nil_append, List.append_nil, Nat.add_zero, Nat.zero_add] <;> omega)), ⟨_, _, _, rfl, Sl.row _ _ _ _ _ _⟩, (by show (s.ps ++ [(⟨au1, bu1, (decide (p2 = ([103, 114, 97, 105, 110]))), nu2⟩ : Pt)]).length ≤ _; simp), fun t ht => part_val hq9 hzu1 hvu2 t (by rw [← ho]; exact ht)⟩
theorem stake_any (bs : Nat) (s : Sk) (A : Option Addr) (c : Nat) (Ia : List (Nat × BA)) (exq : Nat → Prop) (X : Option Addr) (cx bX oX : Nat) (ws : List (List UInt8)) (fi : Bool) (w : World) (hT : ∀ wc L, Mem w exq wc L → StrW wc) (SX : Sp w exq [] X ws.length 1 bX oX (st ws)) (hw0 : 0 < ws.length) (hw8 : ws.length ≤ 800000) (hwl : ∀ p ∈ ws, p.length ≤ 800000) (hn : s.ps.length ≤ 800000) (hsA : Sl 119 4 (.slice A s.ps.length c) s.ps.length (pc s.ps) Ia) (M0 : Mem w exq w ((bs, .cells [.int .i64 s.lo, .int .i64 s.wi, .int .i64 s.a0, .int .i64 s.a1, .int .i64 s.c0, .int .i64 s.c1, .slice A s.ps.length c]) :: Ia)) :
   Calls Tryz.prog 144 #[.pointer (some ⟨bs, 0, none⟩), .slice X ws.length cx, .bool fi] w (TakeS (if fi = true then headS ws s else partS ws s) w exq bs s.ps.length) := by
 obtain ⟨p0, hp0⟩ : ∃ q, ws[0]? = some q := ⟨_, List.getElem?_eq_getElem hw0⟩
 obtain ⟨p1, hp1⟩ := word_at (l := ws) 1
 have hl1 : 1 < ws.length → p1.length ≤ 800000 := fun h => hwl _ (List.mem_of_getElem? (hp1 h))
 obtain ⟨p2, hp2⟩ := word_at (l := ws) 2
 have hl2 : 2 < ws.length → p2.length ≤ 800000 := fun h => hwl _ (List.mem_of_getElem? (hp2 h))
 obtain ⟨p3, hp3⟩ := word_at (l := ws) 3
 have hl3 : 3 < ws.length → p3.length ≤ 800000 := fun h => hwl _ (List.mem_of_getElem? (hp3 h))
 refine Zpx exq Tryz.func144 rfl 132 rfl [.pointer (some ⟨bs, 0, none⟩), .slice X ws.length cx, .bool fi] rfl rfl M0 ?_
 intro ac wc T M
 refine Zsr ?_
 refine lq T (Zra rfl evc) ?_; clear T ac; intro ac T
 replace T := T.pick [1, 2, 3] rfl
 refine Zln ?_
 refine wp_seq ?_
 refine Zsr ?_
 refine Zg3 T (Zq (Zrm rfl (T.e 1 rfl))) rfl (fun _ T => Zq (Zri (size := 1) 0 rfl (T.e 0 rfl) evc ⟨_, Tryz.underlying37, by kernel_rfl⟩ rfl (by omega) (SX.at0 (by omega)))) rfl (fun _ T => Zq (rn_cell (Sp.stC0 SX M (Zz9 _) hp0) rfl (T.e 0 rfl))) rfl ?_; clear T ac; intro ac T
 replace T := T.pick [0, 3, 4, 5] rfl
 refine Zln ?_
 refine wp_block ?_
 refine Zsr ?_
 refine Zg2 T (Zq (rn_seql rfl (T.e 0 rfl) evc)) rfl (Za 0 rfl rfl) rfl ?_; clear T ac; intro ac T
 replace T := T.pick [0, 2, 3, 4, 5] rfl
 refine Zln ?_
 refine wp_if (T.e 0 rfl) ?_ ?_
 ·intro h1
  refine wp_seq ?_
  refine cut_seq (fun ac wc => Tm ac 132 [(0, .pointer (some ⟨bs, 0, none⟩)), (1, .slice X ws.length cx), (27, .bool ((!fi) || (!(decide (((ws.length : Nat) : Int) = 4)))))] ∧ Mem w exq wc ((bs, .cells [.int .i64 s.lo, .int .i64 s.wi, .int .i64 s.a0, .int .i64 s.a1, .int .i64 s.c0, .int .i64 s.c1, .slice A s.ps.length c]) :: Ia)) ?_ ?_
  ·refine wp_region_lit ?_
   refine Zg3 T (Zq (Zrm rfl (T.e 4 rfl))) rfl (fun _ T => Zq (rn_not rfl (T.e 0 rfl))) rfl (Zm 0 rfl rfl) rfl ?_; clear T ac; intro ac T
   rcases Bool.eq_false_or_eq_true (!fi) with h2 | h2
   ·refine Zg4 T (Zp (Zwn rfl rfl (T.e 0 rfl) h2)) rfl (fun _ T => Zp (Zwn rfl rfl (T.e 1 rfl) h2)) rfl (fun _ T => Zp (Zwn rfl rfl (T.e 2 rfl) h2)) rfl (fun _ T => Zq (Zr1 rfl (T.e 3 rfl) h2 evc)) rfl ?_; clear T ac; intro ac T
    refine wpList_nil ?_
    replace T := T.pick [0, 9, 10] rfl
    exact ⟨(T.pick (E' := [(0, .pointer (some ⟨bs, 0, none⟩)), (1, .slice X ws.length cx), (27, .bool true)]) [1, 2, 0] rfl).as (by (try rw [show (!fi) = true from h2]); (try rfl)), M.mask [true] rfl⟩
   refine Zg4 T (Zw (Zwy rfl rfl (T.e 0 rfl) h2) (Zrm rfl (T.e 6 rfl))) rfl (fun _ T => Zw (Zwy rfl rfl (T.e 1 rfl) h2) (Zrl rfl Tryz.underlying37 (T.e 0 rfl))) rfl (fun _ T => Zw (Zwy rfl rfl (T.e 2 rfl) h2) (rn_neq rfl (T.e 0 rfl) evc)) rfl (fun _ T => Zq (Zr0 rfl (T.e 3 rfl) h2 (T.e 0 rfl))) rfl ?_; clear T ac; intro ac T
   refine wpList_nil ?_
   replace T := T.pick [0, 9, 10] rfl
   exact ⟨(T.pick (E' := [(0, .pointer (some ⟨bs, 0, none⟩)), (1, .slice X ws.length cx), (27, .bool (!(decide (((ws.length : Nat) : Int) = 4))))]) [1, 2, 0] rfl).as (by (try rw [show (!fi) = false from h2]); (try rfl)), M.mask [true] rfl⟩
  clear T M
  rintro ac wc ⟨T, M⟩
  refine wp_cond_split (T.e 2 rfl) ?_ ?_
  ·intro h3
   (have h3' := h3; try simp only [Zb1, Zb2, Zb3, Zb4, Zb5, Zb6, Zb7] at h3')
   refine Zsr ?_
   refine lq T (Zra rfl evc) ?_; clear T ac; intro ac T
   replace T := T.pick [0] rfl
   refine Zln ?_
   refine wp_ret ?_
   refine Zrt ?_
   refine Zrb ?_
   refine Zrt ?_
   refine rt_1 T rfl (T.e 0 rfl) ?_
   have hk0 : p0 = sheetW := (by assumption : p0 = [115, 104, 101, 101, 116])
   have hno : (if fi = true then headS ws s else partS ws s) = none := by
     have h9 := h3
     cases fi with
     | false => exact partS_word hp0 (by rw [hk0]; decide) s
     | true => exact headS_len (fun h8 => by simp [h8] at h9) s
   exact TakeS.none hno (Mem.subS (L' := ((bs, .cells [.int .i64 s.lo, .int .i64 s.wi, .int .i64 s.a0, .int .i64 s.a1, .int .i64 s.c0, .int .i64 s.c1, .slice A s.ps.length c]) :: Ia)) ([]) M (fun f => by simp only [sumF_app, sumF_cons, sumF_nil, List.cons_append, List.nil_append, List.append_nil, Nat.add_zero, Nat.zero_add] <;> omega)) ⟨A, c, Ia, rfl, hsA⟩ (by omega)
  intro h3
  (have h3' := h3; try simp only [Zb1, Zb2, Zb3, Zb4, Zb5, Zb6, Zb7] at h3')
  have hk0 : p0 = sheetW := (by assumption : p0 = [115, 104, 101, 101, 116])
  have hc9 : fi = true ∧ ws.length = 4 := by have h9 := h3; simp only [Bool.or_eq_false_iff, Bool.not_eq_false', decide_eq_true_eq] at h9; exact ⟨h9.1, by omega⟩
  obtain ⟨hfi, hl4⟩ := hc9
  have hl1 := hl1 (by omega)
  have hl2 := hl2 (by omega)
  have hl3 := hl3 (by omega)
  refine Zsk ?_
  refine Zsr ?_
  refine Zg3 T (Zq (Zra rfl evc)) rfl (Zc rfl) rfl (Zc rfl) rfl ?_; clear T ac; intro ac T
  replace T := T.pick [3, 4] rfl
  refine Zln ?_
  refine Zsr ?_
  refine Zg5 T (Zq (Zrm rfl (T.e 0 rfl))) rfl (Zm 1 rfl rfl) rfl (Zm 3 rfl rfl) rfl (fun _ T => Zq (Zri (size := 1) 1 rfl (T.e 0 rfl) evc ⟨_, Tryz.underlying37, by kernel_rfl⟩ rfl (by omega) (SX.at0 (by omega)))) rfl (fun _ T => Zq (rn_cell (Sp.stC0 SX M (Zz9 _) (hp1 (by omega))) rfl (T.e 0 rfl))) rfl ?_; clear T ac; intro ac T
  refine Zl2 ?_
  refine Zoc (first := []) (cap := []) T rfl rfl rfl rfl evf (.cons (T.e 0 rfl) (.cons evc .nil)) Tryz.func197 rfl rfl ?_
  refine Calls.mono (spair_any p1 120 _ (by omega) (hT _ _ M)) ?_
  clear T; rintro e wc ⟨au1, bu1, rfl, hzu1, hb⟩ ac T
  replace M := M.call hb; clear hb
  refine Zg6 (v6 := (.pointer (some ⟨bs, 0, none⟩))) T (Zq (Zrm rfl (T.e 0 rfl))) rfl (Ze 0 rfl rfl rfl) rfl (Ze 1 rfl rfl rfl) rfl (Ze 2 rfl rfl rfl) rfl (fun _ T => Zq (rn_nil rfl (T.e 9 rfl))) rfl (Zf 0 0 rfl rfl) rfl ?_; clear T ac; intro ac T
  refine Zl2 ?_
  refine Zos M T rfl rfl (T.e 0 rfl) (T.e 4 rfl) rfl .head rfl (by simp) rfl (by kernel_rfl) ?_; clear M T; intro wc ac M T
  refine Zg2 (v2 := (.pointer (some ⟨bs, 1, none⟩))) T (Zq (rn_nil rfl (T.e 10 rfl))) rfl (Zf 1 0 rfl rfl) rfl ?_; clear T ac; intro ac T
  refine Zl2 ?_
  refine Zos M T rfl rfl (T.e 0 rfl) (T.e 5 rfl) rfl .head rfl (by simp) rfl (by kernel_rfl) ?_; clear M T; intro wc ac M T
  refine lq T (Zra rfl (T.e 4 rfl)) ?_; clear T ac; intro ac T
  replace T := T.pick [0, 15, 16] rfl
  refine Zln ?_
  refine Zsr ?_
  refine Zg5 T (Zq (Zrm rfl (T.e 1 rfl))) rfl (Zm 2 rfl rfl) rfl (Zm 4 rfl rfl) rfl (fun _ T => Zq (Zri (size := 1) 2 rfl (T.e 0 rfl) evc ⟨_, Tryz.underlying37, by kernel_rfl⟩ rfl (by omega) (SX.at0 (by omega)))) rfl (fun _ T => Zq (rn_cell (Sp.stC0 SX M (Zz9 _) (hp2 (by omega))) rfl (T.e 0 rfl))) rfl ?_; clear T ac; intro ac T
  refine Zl2 ?_
  refine Zoc (first := []) (cap := []) T rfl rfl rfl rfl evf (.cons (T.e 0 rfl) (.cons evc .nil)) Tryz.func197 rfl rfl ?_
  refine Calls.mono (spair_any p2 126 _ (by omega) (hT _ _ M)) ?_
  clear T; rintro e wc ⟨au2, bu2, rfl, hzu2, hb⟩ ac T
  replace M := M.call hb; clear hb
  refine Zg7 (v6 := (.pointer (some ⟨bs, 2, none⟩))) (v7 := (.pointer (some ⟨bs, 2, none⟩))) T (Zq (Zrm rfl (T.e 0 rfl))) rfl (Ze 0 rfl rfl rfl) rfl (Ze 1 rfl rfl rfl) rfl (Ze 2 rfl rfl rfl) rfl (fun _ T => Zq (rn_nil rfl (T.e 9 rfl))) rfl (Zf 2 0 rfl rfl) rfl (Zf 0 0 rfl rfl) rfl ?_; clear T ac; intro ac T
  refine Zl2 ?_
  refine Zos M T rfl rfl (T.e 0 rfl) (T.e 5 rfl) rfl .head rfl (by simp) rfl (by kernel_rfl) ?_; clear M T; intro wc ac M T
  refine Zg3 (v2 := (.pointer (some ⟨bs, 2, none⟩))) (v3 := (.pointer (some ⟨bs, 3, none⟩))) T (Zq (rn_nil rfl (T.e 11 rfl))) rfl (Zf 2 0 rfl rfl) rfl (Zf 1 0 rfl rfl) rfl ?_; clear T ac; intro ac T
  refine Zl2 ?_
  refine Zos M T rfl rfl (T.e 0 rfl) (T.e 7 rfl) rfl .head rfl (by simp) rfl (by kernel_rfl) ?_; clear M T; intro wc ac M T
  refine lq T (Zra rfl (T.e 6 rfl)) ?_; clear T ac; intro ac T
  replace T := T.pick [0, 17, 18, 19] rfl
  refine Zln ?_
  refine Zsr ?_
  refine Zg5 T (Zq (Zrm rfl (T.e 2 rfl))) rfl (Zm 3 rfl rfl) rfl (Zm 5 rfl rfl) rfl (fun _ T => Zq (Zri (size := 1) 3 rfl (T.e 0 rfl) evc ⟨_, Tryz.underlying37, by kernel_rfl⟩ rfl (by omega) (SX.at0 (by omega)))) rfl (fun _ T => Zq (rn_cell (Sp.stC0 SX M (Zz9 _) (hp3 (by omega))) rfl (T.e 0 rfl))) rfl ?_; clear T ac; intro ac T
  refine Zl2 ?_
  refine Zoc (first := []) (cap := []) T rfl rfl rfl rfl evf (.cons (T.e 0 rfl) (.cons evc .nil)) Tryz.func197 rfl rfl ?_
  refine Calls.mono (spair_any p3 126 _ (by omega) (hT _ _ M)) ?_
  clear T; rintro e wc ⟨au3, bu3, rfl, hzu3, hb⟩ ac T
  replace M := M.call hb; clear hb
  refine Zg7 (v6 := (.pointer (some ⟨bs, 4, none⟩))) (v7 := (.pointer (some ⟨bs, 4, none⟩))) T (Zq (Zrm rfl (T.e 0 rfl))) rfl (Ze 0 rfl rfl rfl) rfl (Ze 1 rfl rfl rfl) rfl (Ze 2 rfl rfl rfl) rfl (fun _ T => Zq (rn_nil rfl (T.e 9 rfl))) rfl (Zf 4 0 rfl rfl) rfl (Zf 0 0 rfl rfl) rfl ?_; clear T ac; intro ac T
  refine Zl2 ?_
  refine Zos M T rfl rfl (T.e 0 rfl) (T.e 5 rfl) rfl .head rfl (by simp) rfl (by kernel_rfl) ?_; clear M T; intro wc ac M T
  refine Zg3 (v2 := (.pointer (some ⟨bs, 4, none⟩))) (v3 := (.pointer (some ⟨bs, 5, none⟩))) T (Zq (rn_nil rfl (T.e 11 rfl))) rfl (Zf 4 0 rfl rfl) rfl (Zf 1 0 rfl rfl) rfl ?_; clear T ac; intro ac T
  refine Zl2 ?_
  refine Zos M T rfl rfl (T.e 0 rfl) (T.e 7 rfl) rfl .head rfl (by simp) rfl (by kernel_rfl) ?_; clear M T; intro wc ac M T
  refine lq T (Zra rfl (T.e 6 rfl)) ?_; clear T ac; intro ac T
  replace T := T.pick [0, 17, 18] rfl
  refine Zln ?_
  refine cut_seq (fun ac wc => Tm ac 132 [(6, .bool (((pairS 120 p1).isSome) && (((pairS 126 p2).isSome) && ((pairS 126 p3).isSome))))] ∧ Mem w exq wc ((bs, .cells [.int .i64 au1, .int .i64 bu1, .int .i64 au2, .int .i64 bu2, .int .i64 au3, .int .i64 bu3, .slice A s.ps.length c]) :: Ia)) ?_ ?_
  ·refine wp_region_lit ?_
   refine Zg2 T (Zq (Zrm rfl (T.e 2 rfl))) rfl (Zm 0 rfl rfl) rfl ?_; clear T ac; intro ac T
   rcases Bool.eq_false_or_eq_true ((pairS 120 p1).isSome) with h4 | h4
   ·refine Zg3 T (Zw (Zwy rfl rfl (T.e 0 rfl) h4) (Zrm rfl (T.e 3 rfl))) rfl (fun _ T => Zq (Zr1 rfl (T.e 1 rfl) h4 (T.e 0 rfl))) rfl (Zm 0 rfl rfl) rfl ?_; clear T ac; intro ac T
    rcases Bool.eq_false_or_eq_true ((pairS 126 p2).isSome) with h5 | h5
    ·refine Zg3 T (Zw (Zwy rfl rfl (T.e 0 rfl) h5) (Zrm rfl (T.e 5 rfl))) rfl (fun _ T => Zq (Zr1 rfl (T.e 1 rfl) h5 (T.e 0 rfl))) rfl (Za 0 rfl rfl) rfl ?_; clear T ac; intro ac T
     refine wpList_nil ?_
     replace T := T.pick [0] rfl
     exact ⟨(T.pick (E' := [(6, .bool ((pairS 126 p3).isSome))]) [0] rfl).as (by (try rw [show ((pairS 120 p1).isSome) = true from h4]); (try rw [show ((pairS 126 p2).isSome) = true from h5]); (try rfl)), M.mask [true] rfl⟩
    refine Zg3 T (Zp (Zwn rfl rfl (T.e 0 rfl) h5)) rfl (fun _ T => Zq (Zr0 rfl (T.e 1 rfl) h5 evc)) rfl (Za 0 rfl rfl) rfl ?_; clear T ac; intro ac T
    refine wpList_nil ?_
    replace T := T.pick [0] rfl
    exact ⟨(T.pick (E' := [(6, .bool false)]) [0] rfl).as (by (try rw [show ((pairS 120 p1).isSome) = true from h4]); (try rw [show ((pairS 126 p2).isSome) = false from h5]); (try rfl)), M.mask [true] rfl⟩
   refine Zg6 T (Zp (Zwn rfl rfl (T.e 0 rfl) h4)) rfl (fun _ T => Zq (Zr0 rfl (T.e 1 rfl) h4 evc)) rfl (Zm 0 rfl rfl) rfl (fun _ T => Zp (Zwn rfl rfl (T.e 0 rfl) rfl)) rfl (fun _ T => Zq (Zr0 rfl (T.e 1 rfl) rfl evc)) rfl (Za 0 rfl rfl) rfl ?_; clear T ac; intro ac T
   refine wpList_nil ?_
   replace T := T.pick [0] rfl
   exact ⟨(T.pick (E' := [(6, .bool false)]) [0] rfl).as (by (try rw [show ((pairS 120 p1).isSome) = false from h4]); (try rfl)), M.mask [true] rfl⟩
  clear T M
  rintro ac wc ⟨T, M⟩
  refine wp_ret ?_
  refine Zrb ?_
  refine Zrt ?_
  refine rt_1 T rfl (T.e 0 rfl) ?_
  have hf : ws = [sheetW, p1, p2, p3] := by rw [← hk0]; exact four_list (by omega) hp0 hp1 hp2 hp3
  have ho : (if fi = true then headS ws s else partS ws s) = headS [sheetW, p1, p2, p3] s := by rw [hf]; exact if_pos hfi
  have e9 : (((pairS 120 p1).isSome) && (((pairS 126 p2).isSome) && ((pairS 126 p3).isSome))) = (headS [sheetW, p1, p2, p3] s).isSome := head_some s
  exact ⟨by rw [ho, ← e9], ({ s with lo := au1, wi := bu1, a0 := au2, a1 := bu2, c0 := au3, c1 := bu3 } : Sk), (bs, .cells [.int .i64 au1, .int .i64 bu1, .int .i64 au2, .int .i64 bu2, .int .i64 au3, .int .i64 bu3, .slice A s.ps.length c]) :: Ia, (Mem.subS (L' := ((bs, .cells [.int .i64 au1, .int .i64 bu1, .int .i64 au2, .int .i64 bu2, .int .i64 au3, .int .i64 bu3, .slice A s.ps.length c]) :: Ia)) ([]) M (fun f => by simp only [sumF_app, sumF_cons, sumF_nil, List.cons_append, List.nil_append, List.append_nil, Nat.add_zero, Nat.zero_add] <;> omega)), ⟨A, c, Ia, rfl, hsA⟩, (by show s.ps.length ≤ _; omega), fun t ht => head_val hzu1 hzu2 hzu3 t (by rw [← ho]; exact ht)⟩
 intro h1
 refine Zsr ?_
 refine Zg2 T (Zq (rn_seql rfl (T.e 1 rfl) evc)) rfl (Za 0 rfl rfl) rfl ?_; clear T ac; intro ac T
 replace T := T.pick [0, 4, 5, 6] rfl
 refine Zln ?_
 refine wp_if (T.e 0 rfl) ?_ ?_
 ·intro h6
  refine wp_seq ?_
  refine cut_seq (fun ac wc => Tm ac 132 [(0, .pointer (some ⟨bs, 0, none⟩)), (1, .slice X ws.length cx), (88, .bool (fi || (!(decide (((ws.length : Nat) : Int) = 4)))))] ∧ Mem w exq wc ((bs, .cells [.int .i64 s.lo, .int .i64 s.wi, .int .i64 s.a0, .int .i64 s.a1, .int .i64 s.c0, .int .i64 s.c1, .slice A s.ps.length c]) :: Ia)) ?_ ?_
  ·refine wp_region_lit ?_
   refine Zg2 T (Zq (Zrm rfl (T.e 3 rfl))) rfl (Zm 0 rfl rfl) rfl ?_; clear T ac; intro ac T
   rcases Bool.eq_false_or_eq_true fi with h7 | h7
   ·refine Zg4 T (Zp (Zwn rfl rfl (T.e 0 rfl) h7)) rfl (fun _ T => Zp (Zwn rfl rfl (T.e 1 rfl) h7)) rfl (fun _ T => Zp (Zwn rfl rfl (T.e 2 rfl) h7)) rfl (fun _ T => Zq (Zr1 rfl (T.e 3 rfl) h7 evc)) rfl ?_; clear T ac; intro ac T
    refine wpList_nil ?_
    replace T := T.pick [0, 7, 8] rfl
    exact ⟨(T.pick (E' := [(0, .pointer (some ⟨bs, 0, none⟩)), (1, .slice X ws.length cx), (88, .bool true)]) [1, 2, 0] rfl).as (by (try rw [show fi = true from h7]); (try rfl)), M.mask [true] rfl⟩
   refine Zg4 T (Zw (Zwy rfl rfl (T.e 0 rfl) h7) (Zrm rfl (T.e 4 rfl))) rfl (fun _ T => Zw (Zwy rfl rfl (T.e 1 rfl) h7) (Zrl rfl Tryz.underlying37 (T.e 0 rfl))) rfl (fun _ T => Zw (Zwy rfl rfl (T.e 2 rfl) h7) (rn_neq rfl (T.e 0 rfl) evc)) rfl (fun _ T => Zq (Zr0 rfl (T.e 3 rfl) h7 (T.e 0 rfl))) rfl ?_; clear T ac; intro ac T
   refine wpList_nil ?_
   replace T := T.pick [0, 7, 8] rfl
   exact ⟨(T.pick (E' := [(0, .pointer (some ⟨bs, 0, none⟩)), (1, .slice X ws.length cx), (88, .bool (!(decide (((ws.length : Nat) : Int) = 4))))]) [1, 2, 0] rfl).as (by (try rw [show fi = false from h7]); (try rfl)), M.mask [true] rfl⟩
  clear T M
  rintro ac wc ⟨T, M⟩
  refine wp_cond_split (T.e 2 rfl) ?_ ?_
  ·intro h8
   (have h8' := h8; try simp only [Zb1, Zb2, Zb3, Zb4, Zb5, Zb6, Zb7] at h8')
   refine Zsr ?_
   refine lq T (Zra rfl evc) ?_; clear T ac; intro ac T
   replace T := T.pick [0] rfl
   refine Zln ?_
   refine wp_ret ?_
   refine Zrt ?_
   refine Zrb ?_
   refine Zrt ?_
   refine rt_1 T rfl (T.e 0 rfl) ?_
   have hk0 : ¬ p0 = sheetW := (by assumption : ¬ p0 = [115, 104, 101, 101, 116])
   have hno : (if fi = true then headS ws s else partS ws s) = none := by
     have h9 := h8
     cases fi with
     | true => exact headS_word hp0 hk0 s
     | false => exact partS_len (fun h8 => by simp [h8] at h9) s
   exact TakeS.none hno (Mem.subS (L' := ((bs, .cells [.int .i64 s.lo, .int .i64 s.wi, .int .i64 s.a0, .int .i64 s.a1, .int .i64 s.c0, .int .i64 s.c1, .slice A s.ps.length c]) :: Ia)) ([]) M (fun f => by simp only [sumF_app, sumF_cons, sumF_nil, List.cons_append, List.nil_append, List.append_nil, Nat.add_zero, Nat.zero_add] <;> omega)) ⟨A, c, Ia, rfl, hsA⟩ (by omega)
  intro h8
  (have h8' := h8; try simp only [Zb1, Zb2, Zb3, Zb4, Zb5, Zb6, Zb7] at h8')
  have hk0 : p0 = blankW := (by assumption : p0 = [98, 108, 97, 110, 107])
  have hc9 : fi = false ∧ ws.length = 4 := by have h9 := h8; simp only [Bool.or_eq_false_iff, Bool.not_eq_false', decide_eq_true_eq] at h9; exact ⟨h9.1, by omega⟩
  obtain ⟨hfi, hl4⟩ := hc9
  have hl1 := hl1 (by omega)
  have hl2 := hl2 (by omega)
  have hl3 := hl3 (by omega)
  refine Zsk ?_
  refine Zsr ?_
  refine Zl2 ?_
  refine Zoa M T rfl rfl rfl rfl ?_; clear M T; intro g1 wc ac M T
  replace T := T.pick [0, 1, 2] rfl
  refine Zln ?_
  refine Zsr ?_
  refine Zg3 T (Zq (Zrm rfl (T.e 2 rfl))) rfl (fun _ T => Zq (Zri (size := 1) 1 rfl (T.e 0 rfl) evc ⟨_, Tryz.underlying37, by kernel_rfl⟩ rfl (by omega) (SX.at0 (by omega)))) rfl (fun _ T => Zq (rn_cell (Sp.stC0 SX M (Zz9 _) (hp1 (by omega))) rfl (T.e 0 rfl))) rfl ?_; clear T ac; intro ac T
  refine Zl2 ?_
  refine Zoc (first := []) (cap := []) T rfl rfl rfl rfl evf (.cons (T.e 0 rfl) (.cons evc .nil)) Tryz.func197 rfl rfl ?_
  refine Calls.mono (spair_any p1 120 _ (by omega) (hT _ _ M)) ?_
  clear T; rintro e wc ⟨au4, bu4, rfl, hzu4, hb⟩ ac T
  replace M := M.call hb; clear hb
  refine Zg7 T (Zq (Zrm rfl (T.e 0 rfl))) rfl (Ze 0 rfl rfl rfl) rfl (Ze 1 rfl rfl rfl) rfl (Ze 2 rfl rfl rfl) rfl (Za 2 rfl rfl) rfl (Za 2 rfl rfl) rfl (Za 2 rfl rfl) rfl ?_; clear T ac; intro ac T
  replace T := T.pick [0, 1, 2, 11, 12, 13] rfl
  refine Zln ?_
  refine Zsr ?_
  refine Zg3 T (Zq (Zrm rfl (T.e 5 rfl))) rfl (fun _ T => Zq (Zri (size := 1) 3 rfl (T.e 0 rfl) evc ⟨_, Tryz.underlying37, by kernel_rfl⟩ rfl (by omega) (SX.at0 (by omega)))) rfl (fun _ T => Zq (rn_cell (Sp.stC0 SX M (Zz9 _) (hp3 (by omega))) rfl (T.e 0 rfl))) rfl ?_; clear T ac; intro ac T
  refine Zl2 ?_
  refine Zoc (first := []) (cap := []) T rfl rfl rfl rfl evf (.cons (T.e 0 rfl) .nil) Tryz.func198 rfl rfl ?_
  refine Calls.mono (snumber_any p3 _ (by omega) (hT _ _ M)) ?_
  clear T; rintro e wc ⟨nu5, rfl, hvu5, hb⟩ ac T
  replace M := M.call hb; clear hb
  refine Zg5 T (Zq (Zrm rfl (T.e 0 rfl))) rfl (Ze 0 rfl rfl rfl) rfl (Ze 1 rfl rfl rfl) rfl (Za 1 rfl rfl) rfl (Za 1 rfl rfl) rfl ?_; clear T ac; intro ac T
  replace T := T.pick [0, 1, 9, 10, 11, 12, 13, 14] rfl
  refine Zln ?_
  refine Zsr ?_
  refine Zg4 (v4 := (.pointer (some ⟨g1, 0, none⟩))) T (Zq (Zrm rfl (T.e 4 rfl))) rfl (Zm 4 rfl rfl) rfl (Zm 3 rfl rfl) rfl (Zf 0 8 rfl rfl) rfl ?_; clear T ac; intro ac T
  refine Zl2 ?_
  refine Zos M T rfl rfl (T.e 0 rfl) (T.e 3 rfl) rfl .head rfl (by simp) rfl (by kernel_rfl) ?_; clear M T; intro wc ac M T
  refine lq (v := (.pointer (some ⟨g1, 1, none⟩))) T (Zrf (off := 1) rfl (T.e 9 rfl) (fun _ _ _ => by kernel_rfl)) ?_; clear T ac; intro ac T
  refine Zl2 ?_
  refine Zos M T rfl rfl (T.e 0 rfl) (T.e 3 rfl) rfl .head rfl (by simp) rfl (by kernel_rfl) ?_; clear M T; intro wc ac M T
  refine lq (v := (.pointer (some ⟨g1, 3, none⟩))) T (Zrf (off := 3) rfl (T.e 10 rfl) (fun _ _ _ => by kernel_rfl)) ?_; clear T ac; intro ac T
  refine Zl2 ?_
  refine Zos M T rfl rfl (T.e 0 rfl) (T.e 3 rfl) rfl .head rfl (by simp) rfl (by kernel_rfl) ?_; clear M T; intro wc ac M T
  replace T := T.pick [6, 8, 11, 12, 13] rfl
  refine Zln ?_
  refine Zsr ?_
  refine Zg3 T (Zq (Zrm rfl (T.e 4 rfl))) rfl (fun _ T => Zq (Zri (size := 1) 2 rfl (T.e 0 rfl) evc ⟨_, Tryz.underlying37, by kernel_rfl⟩ rfl (by omega) (SX.at0 (by omega)))) rfl (fun _ T => Zq (rn_cell (Sp.stC0 SX M (Zz9 _) (hp2 (by omega))) rfl (T.e 0 rfl))) rfl ?_; clear T ac; intro ac T
  replace T := T.pick [0, 3, 4, 5, 6] rfl
  refine Zln ?_
  refine wp_block ?_
  refine wp_seq ?_
  refine wp_block ?_
  refine wp_seq ?_
  refine wp_block ?_
  refine wp_seq ?_
  refine wp_seq ?_
  refine Zsr ?_
  refine Zg2 T (Zq (rn_seql rfl (T.e 0 rfl) evc)) rfl (Za 0 rfl rfl) rfl ?_; clear T ac; intro ac T
  replace T := T.pick [0, 2, 3, 4, 5, 6] rfl
  refine Zln ?_
  refine wp_if (T.e 0 rfl) ?_ ?_
  ·intro h9
   refine wp_exit ?_
   refine Zet ?_
   refine Zet ?_
   refine ex_hit ?_
   refine nm_then ?_
   refine wp_region_lit ?_
   refine lq (v := (.pointer (some ⟨g1, 2, none⟩))) T (Zrf (off := 2) rfl (T.e 4 rfl) (fun _ _ _ => by kernel_rfl)) ?_; clear T ac; intro ac T
   refine Zl2 ?_
   refine Zos M T rfl rfl (T.e 0 rfl) evc rfl .head rfl (by simp) rfl (by kernel_rfl) ?_; clear M T; intro wc ac M T
   refine wpList_nil ?_
   replace T := T.pick [3, 4, 5, 6] rfl
   refine Znb ?_
   refine Zns ?_
   refine wp_seq ?_
   refine Zgs M (M.perm [0] rfl rfl) 11 (by kernel_rfl) rfl (by kernel_rfl) ?_
   clear M; intro wc M
   refine g_addG 10 (M.perm [0, 1] rfl rfl) ?_
   refine gq T 0 1 rfl (fun _ _ _ _ _ => (Zrm rfl (T.e 3 rfl))) ?_; clear T ac; intro ac T
   refine gq T 1 3 rfl (fun _ _ _ _ _ => (Zrm rfl (T.e 4 rfl))) ?_; clear T ac; intro ac T
   refine gq T 2 7 rfl (fun _ _ _ _ _ => (rn_nil rfl (T.e 0 rfl))) ?_; clear T ac; intro ac T
   refine gq (v := (.pointer (some ⟨bs, 6, none⟩))) T 3 15 rfl (fun _ _ _ _ _ => (Zrf (off := 6) rfl (T.e 0 rfl) (fun _ _ _ => by kernel_rfl))) ?_; clear T ac; intro ac T
   refine gq T 4 31 rfl (fun B w' hD hl hS => (Zro (Mem.nth (show Mem w exq w' _ from ((MA.lft hS) (hD.wait (i := 4) (m := 10) (by kernel_rfl) hl))) 1 rfl) rfl (T.e 0 rfl) rfl)) ?_; clear T ac; intro ac T
   refine gq T 5 63 rfl (fun B w' hD hl hS => (Zrr (Mem.nth (show Mem w exq w' _ from ((MA.lft hS) (hD.wait (i := 5) (m := 10) (by kernel_rfl) hl))) 0 rfl) rfl (T.e 7 rfl) rfl)) ?_; clear T ac; intro ac T
   refine gw 6 127 ?_; intro K hK
   refine ow_bs (e := 119) [.int .i64 au4, .int .i64 bu4, .bool true, .int .i64 nu5] M T rfl rfl rfl rfl (.cons (T.e 0 rfl) .nil) (fun _ => by kernel_rfl) ?_; clear M T; intro g2 wc ac M T
   refine Zso hK _ _ (MA.mk (fun _ => M.perm [1, 2] rfl rfl) (M.perm [1] rfl rfl)) ?_; clear hK K
   refine gw 7 255 ?_; intro K hK
   refine ow_app ([(g2, .cells [.int .i64 au4, .int .i64 bu4, .bool true, .int .i64 nu5]), (g1, .cells [.int .i64 au4, .int .i64 bu4, .bool true, .int .i64 nu5]), (bs, .cells [.int .i64 s.lo, .int .i64 s.wi, .int .i64 s.a0, .int .i64 s.a1, .int .i64 s.c0, .int .i64 s.c1, .slice A s.ps.length c])]) Tryz.info119 hsA M (by first | rfl | simp) T rfl rfl rfl rfl Tryz.underlying47 rfl rfl rfl (by omega) (T.e 2 rfl) (T.e 0 rfl) (Zne (i := 0) rfl) rfl rfl ?_; clear M T; intro ga1 cga1 wc ac M T
   refine Zso hK _ _ (MA.mk (fun _ => M.mask [false, false, true, true] rfl) (M.mask [false, false, true, false] rfl)) ?_; clear hK K
   refine gq T 8 511 rfl (fun _ _ _ _ _ => (rn_nil rfl (T.e 7 rfl))) ?_; clear T ac; intro ac T
   refine gq (v := (.pointer (some ⟨bs, 6, none⟩))) T 9 1023 rfl (fun _ _ _ _ _ => (Zrf (off := 6) rfl (T.e 0 rfl) (fun _ _ _ => by kernel_rfl))) ?_; clear T ac; intro ac T
   refine gw 10 2047 ?_; intro K hK
   refine Zos M T rfl rfl (T.e 0 rfl) (T.e 2 rfl) rfl (.tail (.tail (.tail .head))) rfl (by simp) rfl (by kernel_rfl) ?_; clear M T; intro wc ac M T
   refine Zso hK _ _ (MA.mk (fun h => (no_of (by kernel_rfl) h).elim) (M.mask [false, false, true, false] rfl)) ?_; clear hK K
   refine Zgd (by kernel_rfl) ?_
   replace T := T.pick [10, 11] rfl
   replace M := M.mask [true, false, false, true] rfl
   refine nm_then ?_
   refine cut_seq (fun ac wc => Tm ac 132 [(6, .bool (((pairS 120 p1).isSome) && ((numS p3).isSome)))] ∧ Mem w exq wc [(ga1, .row 119 4 (s.ps.length + 1) ((pc s.ps) ++ [.int .i64 au4, .int .i64 bu4, .bool true, .int .i64 nu5]) cga1), (bs, .cells [.int .i64 s.lo, .int .i64 s.wi, .int .i64 s.a0, .int .i64 s.a1, .int .i64 s.c0, .int .i64 s.c1, .slice (some ⟨ga1, 0, none⟩) (s.ps.length + 1) cga1])]) ?_ ?_
   ·refine wp_region_lit ?_
    refine Zg2 T (Zq (Zrm rfl (T.e 1 rfl))) rfl (Zm 0 rfl rfl) rfl ?_; clear T ac; intro ac T
    rcases Bool.eq_false_or_eq_true ((pairS 120 p1).isSome) with h10 | h10
    ·refine Zg3 T (Zw (Zwy rfl rfl (T.e 0 rfl) h10) (Zrm rfl (T.e 2 rfl))) rfl (fun _ T => Zq (Zr1 rfl (T.e 1 rfl) h10 (T.e 0 rfl))) rfl (Za 0 rfl rfl) rfl ?_; clear T ac; intro ac T
     refine wpList_nil ?_
     replace T := T.pick [0] rfl
     exact ⟨(T.pick (E' := [(6, .bool ((numS p3).isSome))]) [0] rfl).as (by (try rw [show ((pairS 120 p1).isSome) = true from h10]); (try rfl)), M.mask [true, true] rfl⟩
    refine Zg3 T (Zp (Zwn rfl rfl (T.e 0 rfl) h10)) rfl (fun _ T => Zq (Zr0 rfl (T.e 1 rfl) h10 evc)) rfl (Za 0 rfl rfl) rfl ?_; clear T ac; intro ac T
    refine wpList_nil ?_
    replace T := T.pick [0] rfl
    exact ⟨(T.pick (E' := [(6, .bool false)]) [0] rfl).as (by (try rw [show ((pairS 120 p1).isSome) = false from h10]); (try rfl)), M.mask [true, true] rfl⟩
   clear T M
   rintro ac wc ⟨T, M⟩
   refine wp_ret ?_
   refine Zrt ?_
   refine Zrb ?_
   refine Zrb ?_
   refine Zrt ?_
   refine rt_1 T rfl (T.e 0 rfl) ?_
   have hf : ws = [blankW, p1, p2, p3] := by rw [← hk0]; exact four_list (by omega) hp0 hp1 hp2 hp3
   have ho : (if fi = true then headS ws s else partS ws s) = partS [blankW, p1, p2, p3] s := by rw [hf]; exact if_neg (by rw [hfi]; decide)
   have hq9 : (p2 = anyW ∧ true = false) ∨ (p2 = grainW ∧ true = true) := by first | exact .inr ⟨(by assumption : p2 = [103, 114, 97, 105, 110]), rfl⟩ | exact .inl ⟨(by assumption : p2 = [97, 110, 121]), rfl⟩
   have e7 : (((pairS 120 p1).isSome) && ((numS p3).isSome)) = (partS [blankW, p1, p2, p3] s).isSome := part_some hq9 s
   have e9 : s.ps.length + 1 = (s.ps ++ [(⟨au4, bu4, true, nu5⟩ : Pt)]).length := by simp
   have e8 : ((pc s.ps) ++ [.int .i64 au4, .int .i64 bu4, .bool true, .int .i64 nu5]) = pc (s.ps ++ [(⟨au4, bu4, true, nu5⟩ : Pt)]) := by first | rw [pc_snoc] | rw [← pc_snoc] | simp [pc, ptC]
   rw [e9, e8] at M
   exact ⟨by rw [ho, ← e7], ({ s with ps := (s.ps ++ [(⟨au4, bu4, true, nu5⟩ : Pt)]) } : Sk), (bs, .cells [.int .i64 s.lo, .int .i64 s.wi, .int .i64 s.a0, .int .i64 s.a1, .int .i64 s.c0, .int .i64 s.c1, .slice (some ⟨ga1, 0, none⟩) ((s.ps ++ [(⟨au4, bu4, true, nu5⟩ : Pt)]).length) cga1]) :: [(ga1, .row 119 4 (s.ps ++ [(⟨au4, bu4, true, nu5⟩ : Pt)]).length (pc (s.ps ++ [(⟨au4, bu4, true, nu5⟩ : Pt)])) cga1)], (Mem.subS (L' := [(bs, .cells [.int .i64 s.lo, .int .i64 s.wi, .int .i64 s.a0, .int .i64 s.a1, .int .i64 s.c0, .int .i64 s.c1, .slice (some ⟨ga1, 0, none⟩) ((s.ps ++ [(⟨au4, bu4, true, nu5⟩ : Pt)]).length) cga1]), (ga1, .row 119 4 (s.ps ++ [(⟨au4, bu4, true, nu5⟩ : Pt)]).length (pc (s.ps ++ [(⟨au4, bu4, true, nu5⟩ : Pt)])) cga1)]) ([]) M (fun f => by simp only [sumF_app, sumF_cons, sumF_nil, List.cons_append, List.nil_append, List.append_nil, Nat.add_zero, Nat.zero_add] <;> omega)), ⟨_, _, _, rfl, Sl.row _ _ _ _ _ _⟩, (by show (s.ps ++ [(⟨au4, bu4, true, nu5⟩ : Pt)]).length ≤ _; simp), fun t ht => part_val hq9 hzu4 hvu5 t (by rw [← ho]; exact ht)⟩
  intro h9
  refine Zsk ?_
  refine Zsr ?_
  refine Zg2 T (Zq (rn_seql rfl (T.e 1 rfl) evc)) rfl (Za 0 rfl rfl) rfl ?_; clear T ac; intro ac T
  replace T := T.pick [0, 4, 5, 6, 7] rfl
  refine Zln ?_
  refine wp_if (T.e 0 rfl) ?_ ?_
  ·intro h11
   refine wp_exit ?_
   refine Zet ?_
   refine ex_miss rfl ?_
   refine Zet ?_
   refine ex_hit ?_
   refine Zns ?_
   refine wp_seq ?_
   refine Zgs M (M.perm [0] rfl rfl) 11 (by kernel_rfl) rfl (by kernel_rfl) ?_
   clear M; intro wc M
   refine g_addG 10 (M.perm [0, 1] rfl rfl) ?_
   refine gq T 0 1 rfl (fun _ _ _ _ _ => (Zrm rfl (T.e 4 rfl))) ?_; clear T ac; intro ac T
   refine gq T 1 3 rfl (fun _ _ _ _ _ => (Zrm rfl (T.e 5 rfl))) ?_; clear T ac; intro ac T
   refine gq T 2 7 rfl (fun _ _ _ _ _ => (rn_nil rfl (T.e 0 rfl))) ?_; clear T ac; intro ac T
   refine gq (v := (.pointer (some ⟨bs, 6, none⟩))) T 3 15 rfl (fun _ _ _ _ _ => (Zrf (off := 6) rfl (T.e 0 rfl) (fun _ _ _ => by kernel_rfl))) ?_; clear T ac; intro ac T
   refine gq T 4 31 rfl (fun B w' hD hl hS => (Zro (Mem.nth (show Mem w exq w' _ from ((MA.lft hS) (hD.wait (i := 4) (m := 10) (by kernel_rfl) hl))) 1 rfl) rfl (T.e 0 rfl) rfl)) ?_; clear T ac; intro ac T
   refine gq T 5 63 rfl (fun B w' hD hl hS => (Zrr (Mem.nth (show Mem w exq w' _ from ((MA.lft hS) (hD.wait (i := 5) (m := 10) (by kernel_rfl) hl))) 0 rfl) rfl (T.e 8 rfl) rfl)) ?_; clear T ac; intro ac T
   refine gw 6 127 ?_; intro K hK
   refine ow_bs (e := 119) [.int .i64 au4, .int .i64 bu4, .bool false, .int .i64 nu5] M T rfl rfl rfl rfl (.cons (T.e 0 rfl) .nil) (fun _ => by kernel_rfl) ?_; clear M T; intro g3 wc ac M T
   refine Zso hK _ _ (MA.mk (fun _ => M.perm [1, 2] rfl rfl) (M.perm [1] rfl rfl)) ?_; clear hK K
   refine gw 7 255 ?_; intro K hK
   refine ow_app ([(g3, .cells [.int .i64 au4, .int .i64 bu4, .bool false, .int .i64 nu5]), (g1, .cells [.int .i64 au4, .int .i64 bu4, .bool false, .int .i64 nu5]), (bs, .cells [.int .i64 s.lo, .int .i64 s.wi, .int .i64 s.a0, .int .i64 s.a1, .int .i64 s.c0, .int .i64 s.c1, .slice A s.ps.length c])]) Tryz.info119 hsA M (by first | rfl | simp) T rfl rfl rfl rfl Tryz.underlying47 rfl rfl rfl (by omega) (T.e 2 rfl) (T.e 0 rfl) (Zne (i := 0) rfl) rfl rfl ?_; clear M T; intro ga2 cga2 wc ac M T
   refine Zso hK _ _ (MA.mk (fun _ => M.mask [false, false, true, true] rfl) (M.mask [false, false, true, false] rfl)) ?_; clear hK K
   refine gq T 8 511 rfl (fun _ _ _ _ _ => (rn_nil rfl (T.e 7 rfl))) ?_; clear T ac; intro ac T
   refine gq (v := (.pointer (some ⟨bs, 6, none⟩))) T 9 1023 rfl (fun _ _ _ _ _ => (Zrf (off := 6) rfl (T.e 0 rfl) (fun _ _ _ => by kernel_rfl))) ?_; clear T ac; intro ac T
   refine gw 10 2047 ?_; intro K hK
   refine Zos M T rfl rfl (T.e 0 rfl) (T.e 2 rfl) rfl (.tail (.tail (.tail .head))) rfl (by simp) rfl (by kernel_rfl) ?_; clear M T; intro wc ac M T
   refine Zso hK _ _ (MA.mk (fun h => (no_of (by kernel_rfl) h).elim) (M.mask [false, false, true, false] rfl)) ?_; clear hK K
   refine Zgd (by kernel_rfl) ?_
   replace T := T.pick [11, 12] rfl
   replace M := M.mask [true, false, false, true] rfl
   refine nm_then ?_
   refine cut_seq (fun ac wc => Tm ac 132 [(6, .bool (((pairS 120 p1).isSome) && ((numS p3).isSome)))] ∧ Mem w exq wc [(ga2, .row 119 4 (s.ps.length + 1) ((pc s.ps) ++ [.int .i64 au4, .int .i64 bu4, .bool false, .int .i64 nu5]) cga2), (bs, .cells [.int .i64 s.lo, .int .i64 s.wi, .int .i64 s.a0, .int .i64 s.a1, .int .i64 s.c0, .int .i64 s.c1, .slice (some ⟨ga2, 0, none⟩) (s.ps.length + 1) cga2])]) ?_ ?_
   ·refine wp_region_lit ?_
    refine Zg2 T (Zq (Zrm rfl (T.e 1 rfl))) rfl (Zm 0 rfl rfl) rfl ?_; clear T ac; intro ac T
    rcases Bool.eq_false_or_eq_true ((pairS 120 p1).isSome) with h12 | h12
    ·refine Zg3 T (Zw (Zwy rfl rfl (T.e 0 rfl) h12) (Zrm rfl (T.e 2 rfl))) rfl (fun _ T => Zq (Zr1 rfl (T.e 1 rfl) h12 (T.e 0 rfl))) rfl (Za 0 rfl rfl) rfl ?_; clear T ac; intro ac T
     refine wpList_nil ?_
     replace T := T.pick [0] rfl
     exact ⟨(T.pick (E' := [(6, .bool ((numS p3).isSome))]) [0] rfl).as (by (try rw [show ((pairS 120 p1).isSome) = true from h12]); (try rfl)), M.mask [true, true] rfl⟩
    refine Zg3 T (Zp (Zwn rfl rfl (T.e 0 rfl) h12)) rfl (fun _ T => Zq (Zr0 rfl (T.e 1 rfl) h12 evc)) rfl (Za 0 rfl rfl) rfl ?_; clear T ac; intro ac T
    refine wpList_nil ?_
    replace T := T.pick [0] rfl
    exact ⟨(T.pick (E' := [(6, .bool false)]) [0] rfl).as (by (try rw [show ((pairS 120 p1).isSome) = false from h12]); (try rfl)), M.mask [true, true] rfl⟩
   clear T M
   rintro ac wc ⟨T, M⟩
   refine wp_ret ?_
   refine Zrt ?_
   refine Zrb ?_
   refine Zrb ?_
   refine Zrt ?_
   refine rt_1 T rfl (T.e 0 rfl) ?_
   have hf : ws = [blankW, p1, p2, p3] := by rw [← hk0]; exact four_list (by omega) hp0 hp1 hp2 hp3
   have ho : (if fi = true then headS ws s else partS ws s) = partS [blankW, p1, p2, p3] s := by rw [hf]; exact if_neg (by rw [hfi]; decide)
   have hq9 : (p2 = anyW ∧ false = false) ∨ (p2 = grainW ∧ false = true) := by first | exact .inr ⟨(by assumption : p2 = [103, 114, 97, 105, 110]), rfl⟩ | exact .inl ⟨(by assumption : p2 = [97, 110, 121]), rfl⟩
   have e7 : (((pairS 120 p1).isSome) && ((numS p3).isSome)) = (partS [blankW, p1, p2, p3] s).isSome := part_some hq9 s
   have e9 : s.ps.length + 1 = (s.ps ++ [(⟨au4, bu4, false, nu5⟩ : Pt)]).length := by simp
   have e8 : ((pc s.ps) ++ [.int .i64 au4, .int .i64 bu4, .bool false, .int .i64 nu5]) = pc (s.ps ++ [(⟨au4, bu4, false, nu5⟩ : Pt)]) := by first | rw [pc_snoc] | rw [← pc_snoc] | simp [pc, ptC]
   rw [e9, e8] at M
   exact ⟨by rw [ho, ← e7], ({ s with ps := (s.ps ++ [(⟨au4, bu4, false, nu5⟩ : Pt)]) } : Sk), (bs, .cells [.int .i64 s.lo, .int .i64 s.wi, .int .i64 s.a0, .int .i64 s.a1, .int .i64 s.c0, .int .i64 s.c1, .slice (some ⟨ga2, 0, none⟩) ((s.ps ++ [(⟨au4, bu4, false, nu5⟩ : Pt)]).length) cga2]) :: [(ga2, .row 119 4 (s.ps ++ [(⟨au4, bu4, false, nu5⟩ : Pt)]).length (pc (s.ps ++ [(⟨au4, bu4, false, nu5⟩ : Pt)])) cga2)], (Mem.subS (L' := [(bs, .cells [.int .i64 s.lo, .int .i64 s.wi, .int .i64 s.a0, .int .i64 s.a1, .int .i64 s.c0, .int .i64 s.c1, .slice (some ⟨ga2, 0, none⟩) ((s.ps ++ [(⟨au4, bu4, false, nu5⟩ : Pt)]).length) cga2]), (ga2, .row 119 4 (s.ps ++ [(⟨au4, bu4, false, nu5⟩ : Pt)]).length (pc (s.ps ++ [(⟨au4, bu4, false, nu5⟩ : Pt)])) cga2)]) ([]) M (fun f => by simp only [sumF_app, sumF_cons, sumF_nil, List.cons_append, List.nil_append, List.append_nil, Nat.add_zero, Nat.zero_add] <;> omega)), ⟨_, _, _, rfl, Sl.row _ _ _ _ _ _⟩, (by show (s.ps ++ [(⟨au4, bu4, false, nu5⟩ : Pt)]).length ≤ _; simp), fun t ht => part_val hq9 hzu4 hvu5 t (by rw [← ho]; exact ht)⟩
  intro h11
  refine Zsk ?_
  refine wp_exit ?_
  refine ex_miss rfl ?_
  refine Zet ?_
  refine ex_miss rfl ?_
  refine Zet ?_
  refine ex_hit ?_
  refine Znb ?_
  refine nm_then ?_
  refine Zsr ?_
  refine lq T (Zra rfl evc) ?_; clear T ac; intro ac T
  refine wpList_nil ?_
  replace T := T.pick [0] rfl
  replace M := M.mask [false, true] rfl
  refine Znr ?_
  refine rt_1 T rfl (T.e 0 rfl) ?_
  have hf : ws = [p0, p1, p2, p3] := four_list hl4 hp0 hp1 hp2 hp3
  have hno : (if fi = true then headS ws s else partS ws s) = none := by rw [hfi, hf]; exact partS_kind (by assumption : ¬ p2 = [97, 110, 121]) (by assumption : ¬ p2 = [103, 114, 97, 105, 110]) _ _
  exact TakeS.none hno (Mem.subS (L' := ((bs, .cells [.int .i64 s.lo, .int .i64 s.wi, .int .i64 s.a0, .int .i64 s.a1, .int .i64 s.c0, .int .i64 s.c1, .slice A s.ps.length c]) :: Ia)) ([]) M (fun f => by simp only [sumF_app, sumF_cons, sumF_nil, List.cons_append, List.nil_append, List.append_nil, Nat.add_zero, Nat.zero_add] <;> omega)) ⟨A, c, Ia, rfl, hsA⟩ (by omega)
 intro h6
 refine wp_skip ?_
 refine Znb ?_
 refine nm_then ?_
 refine Zsr ?_
 refine lq T (Zra rfl evc) ?_; clear T ac; intro ac T
 replace T := T.pick [0] rfl
 refine Zln ?_
 refine wp_ret ?_
 refine rt_1 T rfl (T.e 0 rfl) ?_
 have hk0 : ¬ p0 = sheetW := (by assumption : ¬ p0 = [115, 104, 101, 101, 116])
 have hk1 : ¬ p0 = blankW := (by assumption : ¬ p0 = [98, 108, 97, 110, 107])
 have hno : (if fi = true then headS ws s else partS ws s) = none := by
   cases fi with
   | true => exact headS_word hp0 hk0 s
   | false => exact partS_word hp0 hk1 s
 exact TakeS.none hno (Mem.subS (L' := ((bs, .cells [.int .i64 s.lo, .int .i64 s.wi, .int .i64 s.a0, .int .i64 s.a1, .int .i64 s.c0, .int .i64 s.c1, .slice A s.ps.length c]) :: Ia)) ([]) M (fun f => by simp only [sumF_app, sumF_cons, sumF_nil, List.cons_append, List.nil_append, List.append_nil, Nat.add_zero, Nat.zero_add] <;> omega)) ⟨A, c, Ia, rfl, hsA⟩ (by omega)
theorem drop_at {α : Type} {l : List α} {i : Nat} {x : α} (h : l[i]? = some x) : l.drop i = x :: l.drop (i + 1) := by
 rw [List.drop_eq_getElem_cons (List.getElem?_eq_some_iff.1 h).1, (List.getElem?_eq_some_iff.1 h).2]
theorem rows_at {en : Bool} {i : Nat} {ls : List (List UInt8)} {r : List UInt8} {s : Sk} (h : ls[i]? = some r) : rowsS en i (ls.drop i) s = if en = true then .inl (i + 1)
  else if i = 0 then (match headS (spl 32 r) s with | some t => rowsS false 1 (ls.drop (i + 1)) t | none => .inl (i + 1))
  else if r = sawnW then rowsS true (i + 1) (ls.drop (i + 1)) s
  else match partS (spl 32 r) s with | some t => rowsS false (i + 1) (ls.drop (i + 1)) t | none => .inl (i + 1) := by
 rw [drop_at h]
 rfl
section
variable {en : Bool} {i : Nat} {ls : List (List UInt8)} {r : List UInt8} {s t : Sk} {x : Sum Nat (Bool × Sk)}
theorem rw_en (h : ls[i]? = some r) (H : x = rowsS en i (ls.drop i) s) (he : en = true) : x = .inl (i + 1) := by rw [H, rows_at h, if_pos he]
theorem rw_head (h : ls[i]? = some r) (H : x = rowsS en i (ls.drop i) s) (he : en = false) (hi : i = 0) (ht : headS (spl 32 r) s = some t) : x = rowsS en (i + 1) (ls.drop (i + 1)) t := by
 rw [H, rows_at h, if_neg (by rw [he]; decide), if_pos hi, ht, he, hi]
theorem rw_headN (h : ls[i]? = some r) (H : x = rowsS en i (ls.drop i) s) (he : en = false) (hi : i = 0) (ht : headS (spl 32 r) s = none) : x = .inl (i + 1) := by
 rw [H, rows_at h, if_neg (by rw [he]; decide), if_pos hi, ht]
theorem rw_sawn (h : ls[i]? = some r) (H : x = rowsS en i (ls.drop i) s) (he : en = false) (hi : ¬ i = 0) (hr : r = sawnW) : x = rowsS true (i + 1) (ls.drop (i + 1)) s := by
 rw [H, rows_at h, if_neg (by rw [he]; decide), if_neg hi, if_pos hr]
theorem rw_part (h : ls[i]? = some r) (H : x = rowsS en i (ls.drop i) s) (he : en = false) (hi : ¬ i = 0) (hr : ¬ r = sawnW) (ht : partS (spl 32 r) s = some t) : x = rowsS en (i + 1) (ls.drop (i + 1)) t := by
 rw [H, rows_at h, if_neg (by rw [he]; decide), if_neg hi, if_neg hr, ht, he]
theorem rw_partN (h : ls[i]? = some r) (H : x = rowsS en i (ls.drop i) s) (he : en = false) (hi : ¬ i = 0) (hr : ¬ r = sawnW) (ht : partS (spl 32 r) s = none) : x = .inl (i + 1) := by
 rw [H, rows_at h, if_neg (by rw [he]; decide), if_neg hi, if_neg hr, ht]
end
theorem no_some {α : Type} {o : Option α} (h : o.isSome = false) : o = none := by
 cases o with
 | none => rfl
 | some x => cases h
section
variable {P : Program} {fn : Func} {R : Ending → World → Prop} {a : Act} {w0 w : World} {ex : Nat → Prop} {L : List (Nat × BA)} {n : Nat} {E : List (Nat × Value)}
theorem rt_ctt {t t' t2 : Tmp} {ty : TypeId} {m g : Nat} [hT : RowTy P ty m] {v v2 : Value} {cs : List Value} (M : Mem w0 ex w L) (T : Tm a n E) (hr : fn.results = #[.cell t ty, .tmp t', .tmp t2])
  (hx : a.eval (.tmp t) = .pointer (some ⟨g, 0, none⟩)) (hx' : a.eval (.tmp t') = v) (hx2 : a.eval (.tmp t2) = v2) (hm : (g, BA.cells cs) ∈ L) (hn : cs.length = m) (h : R (.returned (.tuple #[.agg cs.toArray, v, v2])) w) : bodyPost P fn R .ret a w := by
 obtain ⟨d, hu, hw⟩ := hT.row
 refine ⟨T.defers, .tuple #[.agg cs.toArray, v, v2], ?_, h⟩
 have hB := M.get hm
 have hl := run_loadVar_mid w g 0 ty cs d hB.range hu hw (by rw [hn]; exact hT.size)
 have e : a.tmps[t]?.getD undef = .pointer (some ⟨g, 0, none⟩) := by simpa [Act.eval] using hx
 have e' : a.tmps[t']?.getD undef = v := by simpa [Act.eval] using hx'
 have e2 : a.tmps[t2]?.getD undef = v2 := by simpa [Act.eval] using hx2
 simp [results, hr, e, e', e2, asAddr, hl, Sem.run_bind]
end
theorem Mem.joinX {w0 w w' : World} {ex ex' : Nat → Prop} {X X' F : List (Nat × BA)} (M : Mem w0 ex w (X ++ F)) (N : Mem w ex' w' X') (hx : ∀ b, ex' b → inL X b) : Mem w0 ex w' (X' ++ F) := by
 have hX : ∀ b, ex' b → w0.heap.size ≤ b ∨ ex b := fun b hb => by
  obtain ⟨q, hq, rfl⟩ := List.mem_map.1 (hx b hb)
  exact (M.blk q (List.mem_append_left _ hq)).1
 have hnd := M.nd
 rw [List.map_append] at hnd
 obtain ⟨n1, n2, n3⟩ := List.nodup_append.1 hnd
 refine ⟨N.os.trans M.os, N.tape.trans M.tape, N.output.trans M.output, Nat.le_trans M.size N.size, fun b hb hxb => ?_, fun q hq => ?_, ?_⟩
 ·refine (N.block b (Nat.lt_of_lt_of_le hb M.size) fun e => ?_).trans (M.block b hb hxb)
  rcases hX b e with h | h
  ·omega
  ·exact hxb h
 ·rcases List.mem_append.1 hq with hq | hq
  ·have h := N.blk q hq
   refine ⟨?_, h.2⟩
   rcases h.1 with h | h
   ·exact .inl (Nat.le_trans M.size h)
   ·exact hX _ h
  ·have h := M.blk q (List.mem_append_right _ hq)
   exact ⟨h.1, BA.same h.2 N.size (N.block _ (BA.lt h.2) fun e => by
    obtain ⟨r, hr, e2⟩ := List.mem_map.1 (hx _ e)
    exact n3 r.1 (List.mem_map.2 ⟨r, hr, rfl⟩) q.1 (List.mem_map.2 ⟨q, hq, rfl⟩) e2)⟩
 ·rw [List.map_append]
  refine List.nodup_append.2 ⟨N.nd, n2, fun a ha b hb e => ?_⟩
  obtain ⟨q, hq, rfl⟩ := List.mem_map.1 ha
  obtain ⟨r, hr, rfl⟩ := List.mem_map.1 hb
  have h2 := BA.lt (M.blk r (List.mem_append_right _ hr)).2
  rcases (N.blk q hq).1 with h1 | h1
  ·omega
  ·obtain ⟨s, hs, e2⟩ := List.mem_map.1 (hx _ h1)
   exact n3 s.1 (List.mem_map.2 ⟨s, hs, rfl⟩) r.1 (List.mem_map.2 ⟨r, hr, rfl⟩) (e2.trans e)
theorem Sp.of {w0 w : World} {ex ex' : Nat → Prop} {L X I : List (Nat × BA)} {A : Option Addr} {n size b o : Nat} {xs : List Value} (M : Mem w0 ex w (X ++ L)) (hx : ∀ b, ex' b → inL X b) (S : Sp w0 ex I A n size b o xs) (hI : I.Sublist L) : Sp w ex' [] A n size b o xs :=
 ⟨S.at0, S.len, fun w' L' M' _ hn => S.lt w' _ (Mem.joinX M M' hx) (hI.trans (Zsq _ _)) hn, fun w' L' M' _ j v hv => S.cell w' _ (Mem.joinX M M' hx) (hI.trans (Zsq _ _)) j v hv⟩
def ReadK (r : Sk × Int × Int) (w : World) (e : Ending) (w' : World) : Prop := ∃ (A : Option Addr) (c : Nat) (I : List (Nat × BA)), e = .returned (.tuple #[.agg #[.int .i64 r.1.lo, .int .i64 r.1.wi, .int .i64 r.1.a0, .int .i64 r.1.a1, .int .i64 r.1.c0, .int .i64 r.1.c1, .slice A r.1.ps.length c], .int .i64 r.2.1, .int .i64 r.2.2]) ∧ Sl 119 4 (.slice A r.1.ps.length c) r.1.ps.length (pc r.1.ps) I ∧ Mem w noEx w' I
theorem ReadK.zero {r : Sk × Int × Int} {w w' : World} {L : List (Nat × BA)} {r1 e1 : Int} (h : r = (zeroS, r1, e1)) (M : Mem w noEx w' L) : ReadK r w (.returned (.tuple #[.agg #[.int .i64 0, .int .i64 0, .int .i64 0, .int .i64 0, .int .i64 0, .int .i64 0, .slice none 0 0], .int .i64 r1, .int .i64 e1])) w' := by
 subst h
 exact ⟨none, 0, [], rfl, Sl.nil _ _, M.sub (Zz9 _)⟩
abbrev readT (t : List UInt8) : Sk × Int × Int := readS skErr 300 t
theorem readT_long {t : List UInt8} (h : 300 < t.length) : readT t = (zeroS, 0, 10) := if_pos h
theorem readT_short {t : List UInt8} (h : ¬ 300 < t.length) : readT t = endS skErr (spl 10 t) (rowsS false 0 (spl 10 t).dropLast zeroS) := if_neg h
section
open Go.RowKit Go.Extern.Stop Go.Stop Go.Extern
theorem as_nil (t : Value) (w : World) : Calls Tryz.prog 73 #[.nilIface, t] w fun e w' => e = .returned (.bool false) ∧ w' = w := by
 go_enter Tryz.func73, Tryz.ntmps73
 go_wp2
 go_ret
 exact ⟨rfl, rfl⟩
theorem Tryz.valueOfP (t : Addr) (w : World) : (ReflectliteValue.unpack (.iface 139 (.pointer (some t)))).run Tryz.prog w
  = .ok (.agg #[.pointer (some ⟨9, 139, none⟩), .pointer (some ⟨w.heap.size, 0, none⟩), .int .u64 150]) (w.alloc (.cells #[.pointer (some t)] 139)) := by kernel_rfl
theorem Tryz.typeP (a : Addr) (w : World) : (ReflectliteValue.methodAny (ReflectliteValue.valueError "reflectlite.Value.Type" 0) (fun t _ _ _ => ReflectliteType.toType t) #[.agg #[.pointer (some ⟨9, 139, none⟩), .pointer (some a), .int .u64 150]]).run Tryz.prog w
  = .ok (.iface 283 (.agg #[.pointer (some ⟨9, 139, none⟩)])) w := by kernel_rfl
theorem Tryz.methodKind (h : Value) (w : World) : (Go.method 226 283 (.agg #[h]) "Kind").run Tryz.prog w = .ok (281, h) w := by kernel_rfl
theorem Tryz.kindP (w : World) : ((ReflectliteType.abiMethod fun t => (fun a : Nat => Value.int IntKind.u8 (a : Int)) <$> Rtype.kind t) #[.pointer (some ⟨9, 139, none⟩)]).run Tryz.prog w = .ok (.int .u8 22) w := by kernel_rfl
theorem Tryz.kindF (w : World) : ((ReflectliteType.abiMethod fun t => (fun a : Nat => Value.int IntKind.u8 (a : Int)) <$> Rtype.kind t) #[.pointer (some ⟨9, 137, none⟩)]).run Tryz.prog w = .ok (.int .u8 25) w := by kernel_rfl
theorem rlm (z : Sem Value) (f : TypeId → Addr → Nat → Nat → Sem Value) (v : Value) :
  ReflectliteValue.method z f #[v] = (do match ← ReflectliteValue.parts v with | none => z | some (t, a, fl) => f t a fl (fl % 32)) := rfl
theorem Tryz.partsP (a : Addr) (w : World) : (ReflectliteValue.parts (.agg #[.pointer (some ⟨9, 139, none⟩), .pointer (some a), .int .u64 150])).run Tryz.prog w = .ok (some (139, a, 150)) w := by kernel_rfl
theorem Tryz.isNilP (a p : Addr) (W : World) (ha : W.cell? a = some (.pointer (some p))) :
  (ReflectliteValue.method (ReflectliteValue.valueError "reflectlite.Value.IsNil" 0) ReflectliteValue.isNil #[.agg #[.pointer (some ⟨9, 139, none⟩), .pointer (some a), .int .u64 150]]).run Tryz.prog W = .ok (.bool false) W := by
 rw [rlm]
 simp only [Sem.run_bind, Tryz.partsP, Result.andThen]
 simp [ReflectliteValue.isNil, loadVar, isAgg, underlying, Tryz.underlying139, ha, Result.andThen]
theorem Tryz.methodElem (h : Value) (w : World) : (Go.method 226 283 (.agg #[h]) "Elem").run Tryz.prog w = .ok (295, .agg #[h]) w := by kernel_rfl
theorem Tryz.methodImplements (h : Value) (w : World) : (Go.method 226 283 (.agg #[h]) "Implements").run Tryz.prog w = .ok (296, .agg #[h]) w := by kernel_rfl
theorem Tryz.methodAssignableTo (h : Value) (w : World) : (Go.method 226 283 (.agg #[h]) "AssignableTo").run Tryz.prog w = .ok (293, .agg #[h]) w := by kernel_rfl
theorem Tryz.elemP (w : World) : (ReflectliteType.method ReflectliteType.elem #[.agg #[.pointer (some ⟨9, 139, none⟩)]]).run Tryz.prog w = .ok (.iface 283 (.agg #[.pointer (some ⟨9, 137, none⟩)])) w := by kernel_rfl
theorem Tryz.implementsF (w : World) : (ReflectliteType.relation "Implements" ReflectliteType.implements_ #[.agg #[.pointer (some ⟨9, 137, none⟩)], .iface 283 (.agg #[.pointer (some ⟨9, 133, none⟩)])]).run Tryz.prog w = .ok (.bool true) w := by kernel_rfl
theorem Tryz.typeOfF (v : Value) (w : World) : (ReflectliteType.typeOf #[.iface 137 v]).run Tryz.prog w = .ok (.iface 283 (.agg #[.pointer (some ⟨9, 137, none⟩)])) w := by kernel_rfl
theorem Tryz.assignableF (w : World) : (ReflectliteType.relation "AssignableTo" ReflectliteType.assignableTo #[.agg #[.pointer (some ⟨9, 137, none⟩)], .iface 283 (.agg #[.pointer (some ⟨9, 137, none⟩)])]).run Tryz.prog w = .ok (.bool true) w := by kernel_rfl
theorem Tryz.valueOfF (n : Int) (w : World) : (ReflectliteValue.unpack (.iface 137 (.agg #[.int .i64 n]))).run Tryz.prog w
  = .ok (.agg #[.pointer (some ⟨9, 137, none⟩), .pointer (some ⟨w.heap.size, 0, none⟩), .int .u64 153]) (w.alloc (.cells #[.int .i64 n] 137)) := by kernel_rfl
theorem Tryz.elemOfP (w : World) : (Rtype.elem? 139).run Tryz.prog w = .ok (some 137) w := by kernel_rfl
theorem Tryz.mkF (p : Addr) (w : World) : (ReflectliteValue.mk 137 p ReflectliteValue.flagAddr).run Tryz.prog w = .ok (.agg #[.pointer (some ⟨9, 137, none⟩), .pointer (some p), .int .u64 409]) w := by kernel_rfl
theorem Tryz.elemVP (a p : Addr) (W : World) (ha : W.cell? a = some (.pointer (some p))) :
  (ReflectliteValue.method (ReflectliteValue.valueError "reflectlite.Value.Elem" 0) ReflectliteValue.elem #[.agg #[.pointer (some ⟨9, 139, none⟩), .pointer (some a), .int .u64 150]]).run Tryz.prog W
   = .ok (.agg #[.pointer (some ⟨9, 137, none⟩), .pointer (some p), .int .u64 409]) W := by
 rw [rlm]
 simp only [Sem.run_bind, Tryz.partsP, Result.andThen]
 simp [ReflectliteValue.elem, loadVar, isAgg, underlying, Tryz.underlying139, ha, Result.andThen, Tryz.elemOfP, Tryz.mkF]
theorem Tryz.partsFa (a : Addr) (w : World) : (ReflectliteValue.parts (.agg #[.pointer (some ⟨9, 137, none⟩), .pointer (some a), .int .u64 409])).run Tryz.prog w = .ok (some (137, a, 409)) w := by kernel_rfl
theorem Tryz.partsF (a : Addr) (w : World) : (ReflectliteValue.parts (.agg #[.pointer (some ⟨9, 137, none⟩), .pointer (some a), .int .u64 153])).run Tryz.prog w = .ok (some (137, a, 153)) w := by kernel_rfl
theorem Tryz.directF (w : World) : (Rtype.directlyAssignable 137 137).run Tryz.prog w = .ok true w := by kernel_rfl
theorem rls (v x : Value) : ReflectliteValue.set #[v, x] = (do
  let (some (dst, a, fl), some (src, b, _)) := (← ReflectliteValue.parts v, ← ReflectliteValue.parts x)
   | unsupported (.noEntry "extern/(internal/reflectlite.Value).Set.zeroValue")
  if fl / ReflectliteValue.flagAddr % 2 == 0 then unsupported (.noEntry "extern/(internal/reflectlite.Value).Set.unaddressable")
  let val ← loadVar src b
  if ← Rtype.directlyAssignable dst src then storeVar dst a val
  else if ← Rtype.implements dst src then
   if (← Rtype.kind src) == 20 then
    match val with
    | .nilIface => unsupported (.noEntry "extern/reflectlite: a nil value of one interface type handed on as a value of another")
    | _ => storeVar dst a val
   else storeVar dst a (.iface src val)
  else panicString ("reflectlite.Set: value of type " ++ (← Rtype.spelt src) ++ " is not assignable to type " ++ (← Rtype.spelt dst))
  pure (.tuple #[])) := rfl
theorem Tryz.setF (ta b : Addr) (n : Int) (old : Value) (W : World) (hl : (loadVar 137 b).run Tryz.prog W = .ok (.agg #[.int .i64 n]) W) (ht : W.cell? ta = some old) (hf : W.frozen? ta = false) :
  (ReflectliteValue.set #[.agg #[.pointer (some ⟨9, 137, none⟩), .pointer (some ta), .int .u64 409], .agg #[.pointer (some ⟨9, 137, none⟩), .pointer (some b), .int .u64 153]]).run Tryz.prog W
   = .ok (.tuple #[]) (W.setCell ta (.int .i64 n)) := by
 rw [rls]
 simp only [Sem.run_bind, Tryz.partsFa, Tryz.partsF, Result.andThen]
 simp [ReflectliteValue.flagAddr, Sem.run_bind, hl, Result.andThen, Tryz.directF, storeVar, Value.cells, storeCells, Addr.add]
 rw [run_store Tryz.prog W ta _ _ (by rfl)]
 simp [ht, hf]
theorem load_new (W : World) (n : Int) {k : Nat} (hk : k = W.heap.size) : (loadVar 137 ⟨k, 0, none⟩).run Tryz.prog (W.alloc (.cells #[.int .i64 n] 137)) = .ok (.agg #[.int .i64 n]) (W.alloc (.cells #[.int .i64 n] 137)) := by
 subst hk
 have hB := Bk.new W 137 #[.int .i64 n]
 exact run_loadVar_mid _ _ 0 137 [.int .i64 n] _ hB.range Tryz.underlying137 (by rfl) (by kernel_rfl)
set_option maxHeartbeats 4000000 in
theorem as_hit (n : Int) (t : Addr) (old : Value) (w : World) (hg : w.cell? ⟨0, 0, none⟩ = some (.iface 283 (.agg #[.pointer (some ⟨9, 133, none⟩)]))) (ht0 : w.cell? t = some old) (hf0 : w.frozen? t = false) :
  Calls Tryz.prog 73 #[.iface 137 (.agg #[.int .i64 n]), .iface 139 (.pointer (some t))] w fun ev w' => ev = .returned (.bool true) ∧ w' = ((((w.alloc (.cells #[.pointer (some t)] 139)).alloc (.cells #[.pointer (some ⟨9, 139, none⟩), .pointer (some ⟨w.heap.size, 0, none⟩), .int .u64 150] 223)).alloc (.cells #[.pointer (some ⟨9, 139, none⟩), .pointer (some ⟨w.heap.size, 0, none⟩), .int .u64 150] 223)).alloc (.cells #[.int .i64 n] 137)).setCell t (.int .i64 n) := by
 have h6 := @run_callFunc_extern Tryz.prog 145 _ (fun args => ReflectliteValue.unpack (args.getD 0 (.tuple #[]))) Tryz.func145 (by kernel_rfl) (by kernel_rfl) (by kernel_rfl) (by kernel_rfl)
 have h7 := @run_callFunc_extern Tryz.prog 146 _ (ReflectliteValue.methodAny (ReflectliteValue.valueError "reflectlite.Value.Type" 0) (fun t _ _ _ => ReflectliteType.toType t)) Tryz.func146 (by kernel_rfl) (by kernel_rfl) (by kernel_rfl) (by kernel_rfl)
 have h8 := @run_callFunc_extern Tryz.prog 147 _ (ReflectliteValue.method (ReflectliteValue.valueError "reflectlite.Value.IsNil" 0) ReflectliteValue.isNil) Tryz.func147 (by kernel_rfl) (by kernel_rfl) (by kernel_rfl) (by kernel_rfl)
 have h27 := @run_callFunc_extern Tryz.prog 281 _ (ReflectliteType.abiMethod fun t => do pure (.int .u8 (← Rtype.kind t))) Tryz.func281 (by kernel_rfl) (by kernel_rfl) (by kernel_rfl) (by kernel_rfl)
 have h37 := @run_callFunc_extern Tryz.prog 295 _ (ReflectliteType.method ReflectliteType.elem) Tryz.func295 (by kernel_rfl) (by kernel_rfl) (by kernel_rfl) (by kernel_rfl)
 have h38 := @run_callFunc_extern Tryz.prog 296 _ (ReflectliteType.relation "Implements" ReflectliteType.implements_) Tryz.func296 (by kernel_rfl) (by kernel_rfl) (by kernel_rfl) (by kernel_rfl)
 have h10 := @run_callFunc_extern Tryz.prog 199 _ ReflectliteType.typeOf Tryz.func199 (by kernel_rfl) (by kernel_rfl) (by kernel_rfl) (by kernel_rfl)
 have h35 := @run_callFunc_extern Tryz.prog 293 _ (ReflectliteType.relation "AssignableTo" ReflectliteType.assignableTo) Tryz.func293 (by kernel_rfl) (by kernel_rfl) (by kernel_rfl) (by kernel_rfl)
 have h11 := @run_callFunc_extern Tryz.prog 200 _ (ReflectliteValue.method (ReflectliteValue.valueError "reflectlite.Value.Elem" 0) ReflectliteValue.elem) Tryz.func200 (by kernel_rfl) (by kernel_rfl) (by kernel_rfl) (by kernel_rfl)
 have h12 := @run_callFunc_extern Tryz.prog 201 _ ReflectliteValue.set Tryz.func201 (by kernel_rfl) (by kernel_rfl) (by kernel_rfl) (by kernel_rfl)
 have tO := Tryz.typeOfF
 have mA := Tryz.methodAssignableTo
 have a25 := Tryz.assignableF
 have v25 := Tryz.valueOfF
 have f6 := Tryz.valueOfP
 have f7 := Tryz.typeP
 have mK := Tryz.methodKind
 have mE := Tryz.methodElem
 have mI := Tryz.methodImplements
 have k27 := Tryz.kindP
 have k25 := Tryz.kindF
 have e27 := Tryz.elemP
 have i25 := Tryz.implementsF
 have n8 := Tryz.isNilP ⟨w.heap.size, 0, none⟩ t ((w.alloc (.cells #[.pointer (some t)] 139)).alloc (.cells #[.pointer (some ⟨9, 139, none⟩), .pointer (some ⟨w.heap.size, 0, none⟩), .int .u64 150] 223)) (by simp)
 have hlt : 0 < w.heap.size := by
  rcases Nat.lt_or_ge 0 w.heap.size with h | h
  ·exact h
  ·simp [World.cell?, Array.getElem?_eq_none h] at hg
 have hg2 : ((w.alloc (.cells #[.pointer (some t)] 139)).alloc (.cells #[.pointer (some ⟨9, 139, none⟩), .pointer (some ⟨w.heap.size, 0, none⟩), .int .u64 150] 223)).cell? ⟨0, 0, none⟩ = some (.iface 283 (.agg #[.pointer (some ⟨9, 133, none⟩)])) := by
  rw [World.cell?_alloc_lt _ _ ⟨0, 0, none⟩ (by first | (simp; done) | (simp; omega)), World.cell?_alloc_lt _ _ ⟨0, 0, none⟩ hlt]; exact hg
 have htl : t.block < w.heap.size := by
  rcases Nat.lt_or_ge t.block w.heap.size with h | h
  ·exact h
  ·simp [World.cell?, Array.getElem?_eq_none h] at ht0
 have el := Tryz.elemVP ⟨w.heap.size, 0, none⟩ t (((w.alloc (.cells #[.pointer (some t)] 139)).alloc (.cells #[.pointer (some ⟨9, 139, none⟩), .pointer (some ⟨w.heap.size, 0, none⟩), .int .u64 150] 223)).alloc (.cells #[.pointer (some ⟨9, 139, none⟩), .pointer (some ⟨w.heap.size, 0, none⟩), .int .u64 150] 223)) (by rw [World.cell?_alloc_lt _ _ ⟨w.heap.size, 0, none⟩ (by simp; omega)]; simp)
 have st := Tryz.setF t ⟨w.heap.size + 1 + 1 + 1, 0, none⟩ n old ((((w.alloc (.cells #[.pointer (some t)] 139)).alloc (.cells #[.pointer (some ⟨9, 139, none⟩), .pointer (some ⟨w.heap.size, 0, none⟩), .int .u64 150] 223)).alloc (.cells #[.pointer (some ⟨9, 139, none⟩), .pointer (some ⟨w.heap.size, 0, none⟩), .int .u64 150] 223)).alloc (.cells #[.int .i64 n] 137))
  (load_new _ n (by simp))
  (by rw [World.cell?_alloc_lt _ _ t (by simp; omega), World.cell?_alloc_lt _ _ t (by simp; omega), World.cell?_alloc_lt _ _ t (by simp; omega), World.cell?_alloc_lt _ _ t htl]; exact ht0)
  (by rw [World.frozen?_alloc_old _ _ t (by simp; omega), World.frozen?_alloc_old _ _ t (by simp; omega), World.frozen?_alloc_old _ _ t (by simp; omega), World.frozen?_alloc_old _ _ t (Nat.ne_of_lt htl)]; exact hf0)
 go_enter Tryz.func73, Tryz.ntmps73
 go_wp2
 refine wp_loop_rounds 1 ?_
 rw [rounds_succ]
 go_wp2
 go_ret
 exact ⟨rfl, rfl⟩
end
section
variable {P : Program} {op : Oper} {a : Act} {w : World} {v : Value}
theorem rn_mi {ty : TypeId} {x : Operand} (ho : op.op = .makeInterface ty x) (hc : P.concrete ty = true) (hx : a.eval x = v) : Runs P op a (.iface ty v) w := by
 unfold Runs execOp
 simp only [ho, hx]
 rw [Sem.run_bind, run_makeInterface w ty v hc]
 rfl
end
def AsW (w : World) : Prop := w.cell? ⟨0, 0, none⟩ = some (.iface 283 (.agg #[.pointer (some ⟨9, 133, none⟩)]))
theorem AsW.mem0 {w w' : World} {L : List (Nat × BA)} (h : AsW w) (M : Mem w noEx w' L) : AsW w' := by
 unfold AsW at *
 have hlt : 0 < w.heap.size := by
  rcases Nat.lt_or_ge 0 w.heap.size with h9 | h9
  ·exact h9
  ·simp [World.cell?, Array.getElem?_eq_none h9] at h
 rw [M.below.cell (p := ⟨0, 0, none⟩) hlt]
 exact h
theorem as_any (ev : Value) (bt : Nat) (w : World) (hA : AsW w) (hB : Bk w bt #[.int .i64 0]) (hev : ev = .nilIface ∨ ∃ r : Int, ev = .iface 137 (.agg #[.int .i64 r])) :
  Calls Tryz.prog 73 #[ev, .iface 139 (.pointer (some ⟨bt, 0, none⟩))] w fun e w' => ∃ (b : Bool) (r : Int), e = .returned (.bool b) ∧ ((b = false ∧ ev = .nilIface ∧ r = 0) ∨ (b = true ∧ ev = .iface 137 (.agg #[.int .i64 r]))) ∧ Mem w (fun x => x = bt) w' [(bt, .cells [.int .i64 r])] := by
 rcases hev with rfl | ⟨r, rfl⟩
 ·refine (as_nil _ w).mono fun e w' h => ?_
  obtain ⟨rfl, rfl⟩ := h
  exact ⟨false, 0, rfl, .inl ⟨rfl, rfl, rfl⟩, Mem.initEx (p := .cells [.int .i64 0]) hB⟩
 ·have hc : w.cell? ⟨bt, 0, none⟩ = some (.int .i64 0) := by have h := hB.range 0 (.int .i64 0) rfl; simpa using h
  refine (as_hit r ⟨bt, 0, none⟩ _ w hA hc (hB.frozen 0)).mono fun e w' h => ?_
  obtain ⟨rfl, rfl⟩ := h
  refine ⟨true, r, rfl, .inr ⟨rfl, rfl⟩, ?_⟩
  have M0 := Mem.initEx (p := .cells [.int .i64 0]) hB
  have key : ∀ W, Mem w (fun x => x = bt) W [(bt, .cells [.int .i64 0])] → Mem w (fun x => x = bt) (W.setCell ⟨bt, 0, none⟩ (.int .i64 r)) [(bt, .cells [.int .i64 r])] := fun W M => M.write Upd.head (Oth.setCell W ⟨bt, 0, none⟩ _) (Bk.setCells (M.get Zz2) #[.int .i64 r] rfl)
  exact key _ ((((M0.alloc _).alloc _).alloc _).alloc _)
section
open Go.ChangeShapes Go.WideShapes Go.ChangeAt Go.RowKit
def laidT : List (String × DataW Unit) := [("math/bits.deBruijn32tab", Rows.laid_math_bits_deBruijn32tab), ("math/bits.deBruijn64tab", Rows.laid_math_bits_deBruijn64tab), ("internal/strconv.uint64pow10", Rows.laid_internal_strconv_uint64pow10), ("unicode/utf8.acceptRanges", Rows.laid_unicode_utf8_acceptRanges), ("errors.errorType", Rows.laid_errors_errorType), ("strconv.ErrRange", Rows.laid_strconv_ErrRange), ("strconv.ErrSyntax", Rows.laid_strconv_ErrSyntax), ("unicode/utf8.first", Rows.laid_unicode_utf8_first)]
def laidP : List (String × DataW Unit) := [("math/bits.deBruijn32tab", Rows.laid_math_bits_deBruijn32tab), ("math/bits.deBruijn64tab", Rows.laid_math_bits_deBruijn64tab), ("internal/strconv.uint64pow10", Rows.laid_internal_strconv_uint64pow10), ("unicode/utf8.acceptRanges", Rows.laid_unicode_utf8_acceptRanges), ("strconv.ErrRange", Rows.laid_strconv_ErrRange), ("strconv.ErrSyntax", Rows.laid_strconv_ErrSyntax), ("unicode/utf8.first", Rows.laid_unicode_utf8_first)]
def laidH : List (String × DataW Unit) := [("errors.errorType", Rows.laid_errors_errorType)]
theorem laidSplit (W : World) : laidMetH Tryz.prog laidT W = (laidMet Tryz.prog laidP W ∧ handlesMet Tryz.prog laidH W) := by kernel_rfl
theorem gErr : Tryz.prog.globalNamed "errors.errorType" = some 0 := by kernel_rfl
theorem rtyp : (Tryz.prog.cutTypes.find? (·.1 == "internal/reflectlite.rtype")).map (·.2) = some 283 := by kernel_rfl
theorem oneRow : ((List.range 398).filter fun t => Tryz.prog.rowNamed t [101, 114, 114, 111, 114]) = [133] := by kernel_rfl
theorem typN : Tryz.prog.types.size = 398 := by kernel_rfl
theorem gPow : Tryz.prog.globalNamed "internal/strconv.uint64pow10" = some 1 := by kernel_rfl
theorem gSyn : Tryz.prog.globalNamed "strconv.ErrSyntax" = some 5 := by kernel_rfl
theorem gRng : Tryz.prog.globalNamed "strconv.ErrRange" = some 6 := by kernel_rfl
theorem g64 : Tryz.prog.globalNamed "math/bits.deBruijn64tab" = some 8 := by kernel_rfl
theorem iface_cell {n nm : String} {d : DataW Unit} {r : List (String × DataW Unit)} {W : World} {g : Nat} {ti : TypeId} {ms : Array (String × TypeId)} (h : laidMet Tryz.prog ((n, .iface nm d) :: r) W) (hg : Tryz.prog.globalNamed n = some g) (ht : (Tryz.prog.globals[g]?).map (·.type) = some ti) (hi : Tryz.prog.underlying ti = some (.interface ms)) :
   ∃ ev, W.cell? ⟨g, 0, none⟩ = some ev ∧ (ev = .nilIface ∨ ∃ te pe, ev = .iface te pe) := by
 obtain ⟨ps, ⟨g0, t0, cs0, f0, p0, q0, hg0, ht0, hv0, hd0, _, e0⟩, _, hrows⟩ := h
 obtain rfl := Option.some.inj (hg.symm.trans hg0)
 obtain rfl := Option.some.inj (ht.symm.trans ht0)
 obtain ⟨f1, u, v, hc, hn, h1⟩ := iface_of_trod hi hd0
 refine ⟨.iface u v, ?_, .inr ⟨u, v, rfl⟩⟩
 have := World.var?_cell hg0 hv0 0
 rw [this]
 have h2 := congrArg List.head? hc
 obtain ⟨l0⟩ := cs0
 rw [List.head?_eq_getElem?] at h2
 simpa using h2
theorem some_cell {n : String} {d : DataW Unit} {r : List (String × DataW Unit)} {W : World} {g : Nat} (h : laidMet Tryz.prog ((n, d) :: r) W) (hg : Tryz.prog.globalNamed n = some g) : g < W.heap.size := by
 obtain ⟨ps, ⟨g0, t0, cs0, f0, p0, q0, hg0, ht0, hv0, hd0, _, e0⟩, _, hrows⟩ := h
 obtain rfl := Option.some.inj (hg.symm.trans hg0)
 unfold World.var? at hv0
 rw [hg] at hv0
 simp only [Option.bind_some] at hv0
 rcases Nat.lt_or_ge g W.heap.size with h9 | h9
 ·exact h9
 ·rw [Array.getElem?_eq_none h9] at hv0
  cases hv0
theorem of_laidP {W : World} (h : laidMet Tryz.prog laidP W) (hs : W.ShapedOpen Tryz.prog) : StrW W := by
 have h1 : laidMet Tryz.prog (("math/bits.deBruijn64tab", Rows.laid_math_bits_deBruijn64tab) :: _) W := h.tail
 have h2 : laidMet Tryz.prog (("internal/strconv.uint64pow10", Lib.tabData .u64 Lib.pow10Tab) :: _) W := h1.tail
 have h3 := h2.tail.tail
 have h4 := h3.tail
 refine ⟨Lib.tabIs_of_head gPow (t := 334) (e := 84) (n := 20) (by kernel_rfl) (by kernel_rfl) (by kernel_rfl) (by kernel_rfl) (by kernel_rfl) h2, ?_, iface_cell h4 gSyn (ti := 133) (by kernel_rfl) Tryz.underlying133, iface_cell h3 gRng (ti := 133) (by kernel_rfl) Tryz.underlying133, some_cell h1 g64⟩
 exact cell_of_shapedOpen_int (t := 3) (zero := #[.int .i64 0]) hs (of_decide_eq_true (by kernel_rfl)) (by kernel_rfl) rfl (by kernel_rfl) (by kernel_rfl) Tryz.underlying3
theorem c8 : Tryz.prog.cellsOf 5 = 1 := by kernel_rfl
theorem data64 : (Rows.laid_math_bits_deBruijn64tab : DataW Unit) = .agg (tabL.map fun n => .lit (.int .u8 n)) := rfl
theorem of_laid {W : World} (h : laidMet Tryz.prog laidP W) : TabW W := by
 obtain ⟨ps, ⟨g0, t0, cs0, f0, p0, q0, hg0, ht0, hv0, hd0, ⟨g1, t1, cs1, f1, p1, q1, hg1, ht1, hv1, hd1, _, _⟩, _⟩, _, _⟩ := h
 obtain rfl := Option.some.inj (g64.symm.trans hg1)
 have hu : ∃ n, Tryz.prog.underlying t1 = some (.array n 5) ∧ n = 64 := by
   have h2 : ((Tryz.prog.globals[8]?).map (·.type)).bind (fun t => Tryz.prog.underlying t) = some (.array 64 5) := by kernel_rfl
   rw [ht1] at h2
   exact ⟨64, h2, rfl⟩
 obtain ⟨n, hu, rfl⟩ := hu
 obtain ⟨xs, m1, rfl, hx1, hlen, hn3, hel⟩ := DataW.trod_array hu hd1
 have hx2 : xs.map (·.1) = tabL.map fun n => .lit (.int .u8 n) := by
   have h3 := congrArg Prod.fst hx1
   have h4 : (Rows.laid_math_bits_deBruijn64tab : DataW Unit) = .agg (xs.map (·.1)) := h3
   rw [data64] at h4
   injection h4 with h4
   exact h4.symm
 have key : ∀ k, k < 64 → W.cell? ⟨8, k, none⟩ = some (.int .u8 (tabL.getD k 0)) := fun k hk => by
   have he := hel k hk
   rw [c8, Nat.mul_one] at he
   rw [List.getElem?_eq_getElem (by omega)] at he
   obtain ⟨v, e1, e2, -⟩ := DataW.trod_int Tryz.underlying5 he
   have h5 : (xs.map (·.1))[k]? = some (.lit (.int .u8 v)) := by rw [List.getElem?_map, List.getElem?_eq_getElem (by omega), Option.map_some, e2]
   have hkl : k < tabL.length := hk
   rw [hx2, List.getElem?_map, List.getElem?_eq_getElem hkl, Option.map_some, Option.some.injEq] at h5
   injection h5 with h5
   injection h5 with _ h5
   have h6 := World.var?_cell hg1 hv1 k
   have h7 : cs1[k]? = some (.int .u8 v) := by
     have h8 := congrArg List.head? e1
     simp only [List.head?_take, List.head?_drop, List.head?_cons] at h8
     simpa using h8
   rw [h6, h7, ← h5, List.getD_eq_getElem?_getD, List.getElem?_eq_getElem hkl]
   rfl
 refine ⟨?_, fun k hk => ?_⟩
 · have := key 0 (by omega)
   obtain ⟨ob, h1, -⟩ := cell_isC this
   exact (Array.getElem?_eq_some_iff.1 h1).1
 · rw [show ((⟨8, 0, none⟩ : Addr).add (k * 1)) = ⟨8, k, none⟩ by rw [Addr.add_mid]; simp]
   exact key k hk
theorem as_laid {W : World} (h : handlesMet Tryz.prog laidH W) : AsW W := by
 obtain ⟨name, u, ty, e1, e2, e3, e4, e5⟩ := h _ (List.mem_singleton.2 rfl)
 have en : name = [101, 114, 114, 111, 114] := (Option.some.inj e1).symm
 subst en
 obtain rfl := Option.some.inj (rtyp.symm.trans e2)
 have hm : ty ∈ (List.range 398).filter fun t => Tryz.prog.rowNamed t [101, 114, 114, 111, 114] := List.mem_filter.2 ⟨List.mem_range.2 (by rw [← typN]; exact e3), e4⟩
 rw [oneRow] at hm
 obtain rfl := List.mem_singleton.1 hm
 have hh : typeHandle Tryz.prog 133 = .pointer (some ⟨9, 133, none⟩) := by kernel_rfl
 rw [hh] at e5
 have h9 := World.var?_cell gErr e5 0
 unfold AsW
 rw [h9]
 rfl
theorem of_laidT {W : World} (h : laidMetH Tryz.prog laidT W) (hs : W.ShapedOpen Tryz.prog) : StrW W ∧ AsW W ∧ TabW W := by
 rw [laidSplit] at h
 exact ⟨of_laidP h.1 hs, as_laid h.2, of_laid h.1⟩
section
variable {H : Type} {enc : TypeId × Value → H} {W : World}
theorem read_str {v : Value} {d : DataW H} {ps : List MemPlace} {b0 : Nat} (hv : Value.okWide Tryz.prog W .any b0 9 v) (h : DataW.Trod enc Tryz.prog W 0 (fun _ => true) true 9 v d ps) : ∃ l : List UInt8, v = sv l := by
 obtain ⟨fuel, hf⟩ := h
 obtain ⟨s, hs, -, -⟩ := DataW.trod_string Tryz.underlying9 hf
 unfold Value.okWide at hv
 simp only [Tryz.underlying9] at hv
 unfold Cell.okWide at hv
 cases v <;> simp [Value.cells, Cell.ok, Tryz.underlying9] at hv hs
 rename_i a
 exact ⟨a.data.toList, rfl⟩
theorem returnsT {a : Assume} {C : Checked} {os : Os} {f : FuncId} {fn : Func} {s : ChangeSpec} {conds : List PathCond} {apart fresh handsOn again : Bool} {X : World → Array Value → Prop}
  (hX : ∀ (w w' : World) (args : Array Value), w.heap = w'.heap → X w args → X w' args)
  (own : ownKnob C.prog.godebug = none) (started : os.Started) (noInit : C.prog.inits.idxOf? f = none) (hfn : C.prog.funcs[f]? = some fn)
  (witness : ∃ (w : World) (tape : Tape) (i : Input), w.os = os ∧ (w.forCall tape i).Shaped C.prog ∧ i.vars = [] ∧ Input.okWide C.prog (w.forCall tape i) .any w.heap.size f i ∧
   ((s.pre enc C.prog fn conds apart (w.forCall tape i).memory i.args ∧ X (w.forCall tape i).memory i.args) ∧ sizedMet enc C.prog fn (OpenSpec.ofChange s) apart (w.forCall tape i).memory i.args) ∧ a.holds C.prog (lone (Frame.enter C.prog f i.args .normal) [] (w.forCall tape i)))
  (contract : ∀ (W : World) (base : Nat) (args : Array Value) (ds gs : List (DataW H)) (before : List MemPlace),
   (∀ (j : Nat) t v, fn.params[j]? = some t → args[j]? = some v → Value.okWide C.prog W .any base t v) →
   DataW.Whole enc C.prog fn.params.toList s.vars apart W args.toList ds gs before →
   X W args → W.ShapedOpen C.prog →
   Calls C.prog f args W fun e W' => ∃ v, e = .returned v ∧ s.post enc C.prog fn apart fresh handsOn again W args v W') :
  ReturnsInHanded a C os f .any (fun w args => (s.pre enc C.prog fn conds apart w args ∧ X w args) ∧ sizedMet enc C.prog fn (OpenSpec.ofChange s) apart w args) (s.post enc C.prog fn apart fresh handsOn again) := by
 refine returnsInHanded_of_calls own started noInit witness ?_
 intro w tape i _ hsh _ hok hpre hholds
 obtain ⟨_, _, _, fn', hfn', _, _, _, _, hval⟩ := hok
 have e : fn' = fn := Option.some.inj (hfn'.symm.trans hfn)
 subst e
 obtain ⟨⟨⟨ds, gs, before, hw, hc⟩, hx⟩, hz⟩ := hpre
 have hw' := DataW.Whole.of_heap (w' := w.forCall tape i) (by rfl) hw
 refine (contract (w.forCall tape i) w.heap.size i.args ds gs before hval hw' (hX _ _ _ (by rfl) hx) hsh).mono fun e W' ⟨v, he, hp⟩ => ?_
 subst he
 exact ChangeSpec.post_blind hp
end
noncomputable def baseW (os : Os) : World :=
 let w0 := World.holding Tryz.prog os ⟨#[], #[], []⟩
 { w0 with heap := w0.heap.modify 0 fun
   | .cells _ t frozen => .cells #[.iface 283 (.agg #[.pointer (some ⟨9, 133, none⟩)])] t frozen
   | o => o }
noncomputable def startW (os : Os) : World := (baseW os).layVars Tryz.prog laidP
theorem startW_os (os : Os) : (startW os).os = os := (World.layVars_os _ _ _).trans rfl
theorem start_shT (os : Os) (args : Array Value) : ((startW os).forCall (fun _ _ => 0) ⟨#[], args, []⟩).Shaped Tryz.prog := World.shaped_of_ZipB (by kernel_rfl) (by kernel_rfl)
theorem laidPF : (laidT.filter fun x => x.2.handleName?.isNone) = laidP := by kernel_rfl
theorem start_metP (os : Os) (args : Array Value) : laidMet Tryz.prog laidP ((startW os).forCall (fun _ _ => 0) ⟨#[], args, []⟩).memory := by
 have e1 : (laidP.filter fun x => (laidP.map (·.1)).contains x.1) = laidP := List.filter_eq_self.2 fun x hx => List.contains_iff_mem.2 (List.mem_map.2 ⟨x, hx, rfl⟩)
 have e2 : (laidP.filter fun x => !(laidP.map (·.1)).contains x.1) = [] := List.filter_eq_nil_iff.2 fun x hx => by rw [List.contains_iff_mem.2 (List.mem_map.2 ⟨x, hx, rfl⟩)]; simp
 have h : laidMet Tryz.prog laidP (startW os) := laidMet_layVars (w0 := baseW os) (laidP.map (·.1)) [] (by rw [e1]; rfl) (by rw [e1]; kernel_rfl) (by rw [e1]; kernel_rfl) (by rw [e2]; exact LaidIn.none)
 exact h.of_heap (by simp [World.memory, World.forCall, Input.heap])
theorem start_metT (os : Os) (args : Array Value) : laidMetH Tryz.prog laidT ((startW os).forCall (fun _ _ => 0) ⟨#[], args, []⟩).memory :=
 laidMetH_of_parts (by rw [laidPF]; exact start_metP os args) (by kernel_rfl)
end
section
open Go.ChangeShapes Go.WideShapes Go.ChangeAt Go.RowKit
section
variable {H : Type} {enc : TypeId × Value → H} {P : Program} {W : World} {base : Nat} {sp : Nat → Bool} {hd : Bool}
end
end
end Go.Proofs.YtaikhendogcflaaGreatDoor

