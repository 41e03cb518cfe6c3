/-
  Walks of functions, and plain laws (texts put together). No condition.
-/
import Derived.Shelf.Strings.OnBuilder
import Derived.Shelf.LaysM
import Derived.Shelf.Strconv.Itoa3
import Derived.Shelf.LaysC
import Derived.Shelf.Strconv.AtoiAll
import Derived.Shelf.Strings.Cut
import Derived.Shelf.Strings.Prefix
import Derived.Shelf.Strings.Split
import Derived.Test.YtmdbdaofjepelaaGreatDoorProg
import Derived.Lib.Split
import Derived.Lib.Atoi
import Derived.Lib.AtoiAll
import Derived.Lib.ItoaMem
import Derived.LaidMore
import Derived.Stop.Joined
import Derived.Stop.LaidErr
import Derived.Lib.LaidTab
import Derived.Shelf.Vars
import Derived.HandedShaped
import Derived.Lay
import Derived.Test.YtmdbdaofjepelaaGreatDoorRows
import Derived.Test.YtmdbdaofjepelaaGreatDoorMReedRead1
import Derived.Test.YtmdbdaofjepelaaGreatDoorMReedRead2
import Derived.Test.YtmdbdaofjepelaaGreatDoorMReedRead3
set_option maxRecDepth 100000
set_option maxHeartbeats 1000000
set_option linter.unusedSimpArgs false
set_option linter.unusedVariables false
namespace Go.Proofs.YtmdbdaofjepelaaGreatDoor
open Go.RowKit
section
open Go.Shelf
def Tryz.laysM171_ren : Go.Shelf.Ren := ⟨fun | 171 => 48 | 243 => 118 | 246 => 204 | 283 => 248 | 284 => 249 | 285 => 250 | 286 => 251 | 129 => 276 | 317 => 275 | 318 => 277 | 319 => 278 | 320 => 267 | 337 => 292 | 338 => 293 | n => n, fun | 3 => 3 | 9 => 9 | 2 => 2 | 4 => 4 | 171 => 337 | 0 => 0 | 53 => 87 | 37 => 95 | 5 => 5 | 173 => 340 | 212 => 364 | 51 => 365 | 20 => 20 | 213 => 366 | 46 => 90 | 232 => 387 | 233 => 388 | n => n, fun | 17 => 1 | 18 => 7 | 19 => 8 | n => n⟩
theorem Tryz.laysM171 : Go.Proofs.LaysM.n171 Tryz.prog Tryz.laysM171_ren := {
 mixed := by kernel_rfl
 f129 := Tryz.func276.trans (congrArg some (by kernel_rfl))
 f171 := Tryz.func48.trans (congrArg some (by kernel_rfl))
 f243 := Tryz.func118.trans (congrArg some (by kernel_rfl))
 f246 := Tryz.func204.trans (congrArg some (by kernel_rfl))
 f283 := Tryz.func248.trans (congrArg some (by kernel_rfl))
 f284 := Tryz.func249.trans (congrArg some (by kernel_rfl))
 f285 := Tryz.func250.trans (congrArg some (by kernel_rfl))
 f286 := Tryz.func251.trans (congrArg some (by kernel_rfl))
 f317 := Tryz.func275.trans (congrArg some (by kernel_rfl))
 f318 := Tryz.func277.trans (congrArg some (by kernel_rfl))
 f319 := Tryz.func278.trans (congrArg some (by kernel_rfl))
 f320 := Tryz.func267.trans (congrArg some (by kernel_rfl))
 f337 := Tryz.func292.trans (congrArg some (by kernel_rfl))
 f338 := Tryz.func293.trans (congrArg some (by kernel_rfl))
 t0 := Tryz.underlying0
 a0 := Tryz.isAgg0
 z0 := Tryz.sizeOf0
 v0 := Tryz.zeroValue0
 t2 := Tryz.underlying2
 a2 := Tryz.isAgg2
 z2 := Tryz.sizeOf2
 v2 := Tryz.zeroValue2
 t3 := Tryz.underlying3
 a3 := Tryz.isAgg3
 z3 := Tryz.sizeOf3
 v3 := Tryz.zeroValue3
 t4 := Tryz.underlying4
 a4 := Tryz.isAgg4
 z4 := Tryz.sizeOf4
 v4 := Tryz.zeroValue4
 t5 := Tryz.underlying5
 a5 := Tryz.isAgg5
 z5 := Tryz.sizeOf5
 v5 := Tryz.zeroValue5
 t9 := Tryz.underlying9
 a9 := Tryz.isAgg9
 z9 := Tryz.sizeOf9
 v9 := Tryz.zeroValue9
 t20 := Tryz.underlying20
 a20 := Tryz.isAgg20
 z20 := Tryz.sizeOf20
 v20 := Tryz.zeroValue20
 t37 := Tryz.underlying95
 a37 := Tryz.isAgg95
 z37 := Tryz.sizeOf95
 v37 := Tryz.zeroValue95
 t46 := Tryz.underlying90
 a46 := Tryz.isAgg90
 z46 := Tryz.sizeOf90
 v46 := Tryz.zeroValue90
 t51 := Tryz.underlying365
 a51 := Tryz.isAgg365
 z51 := Tryz.sizeOf365
 v51 := Tryz.zeroValue365
 t53 := Tryz.underlying87
 a53 := Tryz.isAgg87
 z53 := Tryz.sizeOf87
 v53 := Tryz.zeroValue87
 t171 := Tryz.underlying337
 a171 := Tryz.isAgg337
 z171 := Tryz.sizeOf337
 v171 := Tryz.zeroValue337
 t173 := Tryz.underlying340
 a173 := Tryz.isAgg340
 z173 := Tryz.sizeOf340
 v173 := Tryz.zeroValue340
 t212 := Tryz.underlying364
 a212 := Tryz.isAgg364
 z212 := Tryz.sizeOf364
 v212 := Tryz.zeroValue364
 t213 := Tryz.underlying366
 a213 := Tryz.isAgg366
 z213 := Tryz.sizeOf366
 t232 := Tryz.underlying387
 a232 := Tryz.isAgg387
 z232 := Tryz.sizeOf387
 v232 := Tryz.zeroValue387
 t233 := Tryz.underlying388
 a233 := Tryz.isAgg388
 z233 := Tryz.sizeOf388
 v233 := Tryz.zeroValue388
 g17 := by kernel_rfl
 g18 := by kernel_rfl
 g19 := by kernel_rfl
 i0 := by kernel_rfl
 i2 := by kernel_rfl
 i3 := by kernel_rfl
 i4 := by kernel_rfl
 i5 := by kernel_rfl
 i9 := by kernel_rfl
 i20 := by kernel_rfl
 i37 := by kernel_rfl
 i46 := by kernel_rfl
 i51 := by kernel_rfl
 i53 := by kernel_rfl
 i171 := by kernel_rfl
 i173 := by kernel_rfl
 i212 := by kernel_rfl
 i232 := by kernel_rfl
 i233 := by kernel_rfl
 m17 := by kernel_rfl
 m18 := by kernel_rfl
 m19 := by kernel_rfl }
def Tryz.laysC172_ren : Go.Shelf.Ren := ⟨fun | 172 => 208 | 244 => 256 | 245 => 257 | 247 => 284 | 279 => 285 | 280 => 286 | 281 => 287 | 282 => 288 | 287 => 296 | 316 => 297 | 171 => 48 | 205 => 298 | 321 => 299 | 322 => 300 | 243 => 118 | 246 => 204 | 283 => 248 | 284 => 249 | 285 => 250 | 286 => 251 | 129 => 276 | 317 => 275 | 318 => 277 | 319 => 278 | 320 => 267 | 337 => 292 | 338 => 293 | n => n, fun | 9 => 9 | 3 => 3 | 75 => 160 | 76 => 257 | 4 => 4 | 5 => 5 | 167 => 367 | 37 => 95 | 0 => 0 | 85 => 368 | 2 => 2 | 168 => 370 | 53 => 87 | 175 => 381 | 46 => 90 | 210 => 385 | 127 => 320 | 145 => 393 | 143 => 391 | 21 => 21 | 171 => 337 | 173 => 340 | 212 => 364 | 51 => 365 | 20 => 20 | 213 => 366 | 232 => 387 | 233 => 388 | 80 => 259 | n => n, fun | 15 => 5 | 16 => 6 | 17 => 1 | 18 => 7 | 19 => 8 | n => n⟩
theorem Tryz.laysC172 : Go.Proofs.LaysC.n172 Tryz.prog Tryz.laysC172_ren := {
 mixed := by kernel_rfl
 f129 := Tryz.func276.trans (congrArg some (by kernel_rfl))
 f171 := Tryz.func48.trans (congrArg some (by kernel_rfl))
 f172 := Tryz.func208.trans (congrArg some (by kernel_rfl))
 f205 := Tryz.func298.trans (congrArg some (by kernel_rfl))
 f243 := Tryz.func118.trans (congrArg some (by kernel_rfl))
 f244 := Tryz.func256.trans (congrArg some (by kernel_rfl))
 f245 := Tryz.func257.trans (congrArg some (by kernel_rfl))
 f246 := Tryz.func204.trans (congrArg some (by kernel_rfl))
 f247 := Tryz.func284.trans (congrArg some (by kernel_rfl))
 f279 := Tryz.func285.trans (congrArg some (by kernel_rfl))
 f280 := Tryz.func286.trans (congrArg some (by kernel_rfl))
 f281 := Tryz.func287.trans (congrArg some (by kernel_rfl))
 f282 := Tryz.func288.trans (congrArg some (by kernel_rfl))
 f283 := Tryz.func248.trans (congrArg some (by kernel_rfl))
 f284 := Tryz.func249.trans (congrArg some (by kernel_rfl))
 f285 := Tryz.func250.trans (congrArg some (by kernel_rfl))
 f286 := Tryz.func251.trans (congrArg some (by kernel_rfl))
 f287 := Tryz.func296.trans (congrArg some (by kernel_rfl))
 f316 := Tryz.func297.trans (congrArg some (by kernel_rfl))
 f317 := Tryz.func275.trans (congrArg some (by kernel_rfl))
 f318 := Tryz.func277.trans (congrArg some (by kernel_rfl))
 f319 := Tryz.func278.trans (congrArg some (by kernel_rfl))
 f320 := Tryz.func267.trans (congrArg some (by kernel_rfl))
 f321 := Tryz.func299.trans (congrArg some (by kernel_rfl))
 f322 := Tryz.func300.trans (congrArg some (by kernel_rfl))
 f337 := Tryz.func292.trans (congrArg some (by kernel_rfl))
 f338 := Tryz.func293.trans (congrArg some (by kernel_rfl))
 t0 := Tryz.underlying0
 a0 := Tryz.isAgg0
 z0 := Tryz.sizeOf0
 v0 := Tryz.zeroValue0
 t2 := Tryz.underlying2
 a2 := Tryz.isAgg2
 z2 := Tryz.sizeOf2
 v2 := Tryz.zeroValue2
 t3 := Tryz.underlying3
 a3 := Tryz.isAgg3
 z3 := Tryz.sizeOf3
 v3 := Tryz.zeroValue3
 t4 := Tryz.underlying4
 a4 := Tryz.isAgg4
 z4 := Tryz.sizeOf4
 v4 := Tryz.zeroValue4
 t5 := Tryz.underlying5
 a5 := Tryz.isAgg5
 z5 := Tryz.sizeOf5
 v5 := Tryz.zeroValue5
 t9 := Tryz.underlying9
 a9 := Tryz.isAgg9
 z9 := Tryz.sizeOf9
 v9 := Tryz.zeroValue9
 t20 := Tryz.underlying20
 a20 := Tryz.isAgg20
 z20 := Tryz.sizeOf20
 v20 := Tryz.zeroValue20
 t21 := Tryz.underlying21
 a21 := Tryz.isAgg21
 z21 := Tryz.sizeOf21
 v21 := Tryz.zeroValue21
 t37 := Tryz.underlying95
 a37 := Tryz.isAgg95
 z37 := Tryz.sizeOf95
 v37 := Tryz.zeroValue95
 t46 := Tryz.underlying90
 a46 := Tryz.isAgg90
 z46 := Tryz.sizeOf90
 v46 := Tryz.zeroValue90
 t51 := Tryz.underlying365
 a51 := Tryz.isAgg365
 z51 := Tryz.sizeOf365
 v51 := Tryz.zeroValue365
 t53 := Tryz.underlying87
 a53 := Tryz.isAgg87
 z53 := Tryz.sizeOf87
 v53 := Tryz.zeroValue87
 t75 := Tryz.underlying160
 a75 := Tryz.isAgg160
 z75 := Tryz.sizeOf160
 v75 := Tryz.zeroValue160
 t76 := Tryz.underlying257
 a76 := Tryz.isAgg257
 z76 := Tryz.sizeOf257
 v76 := Tryz.zeroValue257
 t85 := Tryz.underlying368
 a85 := Tryz.isAgg368
 z85 := Tryz.sizeOf368
 v85 := Tryz.zeroValue368
 t127 := Tryz.underlying320
 a127 := Tryz.isAgg320
 z127 := Tryz.sizeOf320
 v127 := Tryz.zeroValue320
 t143 := Tryz.underlying391
 a143 := Tryz.isAgg391
 z143 := Tryz.sizeOf391
 v143 := Tryz.zeroValue391
 t145 := Tryz.underlying393
 a145 := Tryz.isAgg393
 z145 := Tryz.sizeOf393
 v145 := Tryz.zeroValue393
 t167 := Tryz.underlying367
 a167 := Tryz.isAgg367
 z167 := Tryz.sizeOf367
 v167 := Tryz.zeroValue367
 t168 := Tryz.underlying370
 a168 := Tryz.isAgg370
 z168 := Tryz.sizeOf370
 v168 := Tryz.zeroValue370
 t171 := Tryz.underlying337
 a171 := Tryz.isAgg337
 z171 := Tryz.sizeOf337
 v171 := Tryz.zeroValue337
 t173 := Tryz.underlying340
 a173 := Tryz.isAgg340
 z173 := Tryz.sizeOf340
 v173 := Tryz.zeroValue340
 t175 := Tryz.underlying381
 a175 := Tryz.isAgg381
 z175 := Tryz.sizeOf381
 v175 := Tryz.zeroValue381
 t210 := Tryz.underlying385
 a210 := Tryz.isAgg385
 z210 := Tryz.sizeOf385
 v210 := Tryz.zeroValue385
 t212 := Tryz.underlying364
 a212 := Tryz.isAgg364
 z212 := Tryz.sizeOf364
 v212 := Tryz.zeroValue364
 t213 := Tryz.underlying366
 a213 := Tryz.isAgg366
 z213 := Tryz.sizeOf366
 t232 := Tryz.underlying387
 a232 := Tryz.isAgg387
 z232 := Tryz.sizeOf387
 v232 := Tryz.zeroValue387
 t233 := Tryz.underlying388
 a233 := Tryz.isAgg388
 z233 := Tryz.sizeOf388
 v233 := Tryz.zeroValue388
 g15 := by kernel_rfl
 g16 := by kernel_rfl
 g17 := by kernel_rfl
 g18 := by kernel_rfl
 g19 := by kernel_rfl
 t80 := Tryz.underlying259
 a80 := Tryz.isAgg259
 z80 := Tryz.sizeOf259
 v80 := Tryz.zeroValue259
 i0 := by kernel_rfl
 i2 := by kernel_rfl
 i3 := by kernel_rfl
 i4 := by kernel_rfl
 i5 := by kernel_rfl
 i9 := by kernel_rfl
 i20 := by kernel_rfl
 i21 := by kernel_rfl
 i37 := by kernel_rfl
 i46 := by kernel_rfl
 i51 := by kernel_rfl
 i53 := by kernel_rfl
 i75 := by kernel_rfl
 i76 := by kernel_rfl
 i80 := by kernel_rfl
 i85 := by kernel_rfl
 i127 := by kernel_rfl
 i143 := by kernel_rfl
 i145 := by kernel_rfl
 i167 := by kernel_rfl
 i168 := by kernel_rfl
 i171 := by kernel_rfl
 i173 := by kernel_rfl
 i175 := by kernel_rfl
 i210 := by kernel_rfl
 i212 := by kernel_rfl
 i232 := by kernel_rfl
 i233 := by kernel_rfl
 m15 := by kernel_rfl
 m16 := by kernel_rfl
 m17 := by kernel_rfl
 m18 := by kernel_rfl
 m19 := by kernel_rfl
 c0 := by kernel_rfl
 c2 := by kernel_rfl
 c3 := by kernel_rfl
 c4 := by kernel_rfl
 c5 := by kernel_rfl
 c9 := by kernel_rfl
 c20 := by kernel_rfl
 c21 := by kernel_rfl
 c37 := by kernel_rfl
 c46 := by kernel_rfl
 c51 := by kernel_rfl
 c53 := by kernel_rfl
 c75 := by kernel_rfl
 c76 := by kernel_rfl
 c80 := by kernel_rfl
 c85 := by kernel_rfl
 c127 := by kernel_rfl
 c143 := by kernel_rfl
 c145 := by kernel_rfl
 c167 := by kernel_rfl
 c168 := by kernel_rfl
 c171 := by kernel_rfl
 c173 := by kernel_rfl
 c175 := by kernel_rfl
 c210 := by kernel_rfl
 c212 := by kernel_rfl
 c213 := by kernel_rfl
 c232 := by kernel_rfl
 c233 := by kernel_rfl }
def Tryz.lays145_ren : Go.Shelf.Ren := ⟨fun | 145 => 129 | 220 => 210 | 219 => 255 | 217 => 280 | 225 => 281 | 224 => 282 | 267 => 283 | 266 => 294 | 314 => 295 | n => n, fun | 9 => 9 | 4 => 4 | 59 => 193 | 3 => 3 | 5 => 5 | 46 => 90 | 146 => 379 | 51 => 365 | n => n, fun | 1 => 2 | n => n⟩
theorem Tryz.lays145 : Go.Proofs.Lays.n145 Tryz.prog Tryz.lays145_ren := {
 mixed := by kernel_rfl
 f145 := Tryz.func129.trans (congrArg some (by kernel_rfl))
 f217 := Tryz.func280.trans (congrArg some (by kernel_rfl))
 f219 := Tryz.func255.trans (congrArg some (by kernel_rfl))
 f220 := Tryz.func210.trans (congrArg some (by kernel_rfl))
 f224 := Tryz.func282.trans (congrArg some (by kernel_rfl))
 f225 := Tryz.func281.trans (congrArg some (by kernel_rfl))
 f266 := Tryz.func294.trans (congrArg some (by kernel_rfl))
 f267 := Tryz.func283.trans (congrArg some (by kernel_rfl))
 f314 := Tryz.func295.trans (congrArg some (by kernel_rfl))
 t3 := Tryz.underlying3
 a3 := Tryz.isAgg3
 z3 := Tryz.sizeOf3
 v3 := Tryz.zeroValue3
 t4 := Tryz.underlying4
 a4 := Tryz.isAgg4
 z4 := Tryz.sizeOf4
 v4 := Tryz.zeroValue4
 t5 := Tryz.underlying5
 a5 := Tryz.isAgg5
 z5 := Tryz.sizeOf5
 v5 := Tryz.zeroValue5
 t9 := Tryz.underlying9
 a9 := Tryz.isAgg9
 z9 := Tryz.sizeOf9
 v9 := Tryz.zeroValue9
 t46 := Tryz.underlying90
 a46 := Tryz.isAgg90
 z46 := Tryz.sizeOf90
 v46 := Tryz.zeroValue90
 t51 := Tryz.underlying365
 a51 := Tryz.isAgg365
 z51 := Tryz.sizeOf365
 v51 := Tryz.zeroValue365
 t59 := Tryz.underlying193
 a59 := Tryz.isAgg193
 z59 := Tryz.sizeOf193
 v59 := Tryz.zeroValue193
 t146 := Tryz.underlying379
 a146 := Tryz.isAgg379
 z146 := Tryz.sizeOf379
 v146 := Tryz.zeroValue379
 g1 := by kernel_rfl }
def Tryz.lays99_ren : Go.Shelf.Ren := ⟨fun | 99 => 54 | 206 => 127 | n => n, fun | 9 => 9 | 4 => 4 | 3 => 3 | n => n, fun | n => n⟩
theorem Tryz.lays99 : Go.Proofs.Lays.n99 Tryz.prog Tryz.lays99_ren := {
 mixed := by kernel_rfl
 f99 := Tryz.func54.trans (congrArg some (by kernel_rfl))
 f206 := Tryz.func127.trans (congrArg some (by kernel_rfl))
 t3 := Tryz.underlying3
 a3 := Tryz.isAgg3
 z3 := Tryz.sizeOf3
 v3 := Tryz.zeroValue3
 t4 := Tryz.underlying4
 a4 := Tryz.isAgg4
 z4 := Tryz.sizeOf4
 v4 := Tryz.zeroValue4
 t9 := Tryz.underlying9
 a9 := Tryz.isAgg9
 z9 := Tryz.sizeOf9
 v9 := Tryz.zeroValue9 }
def Tryz.lays101_ren : Go.Shelf.Ren := ⟨fun | 101 => 209 | 208 => 258 | 206 => 127 | n => n, fun | 9 => 9 | 4 => 4 | 3 => 3 | n => n, fun | n => n⟩
theorem Tryz.lays101 : Go.Proofs.Lays.n101 Tryz.prog Tryz.lays101_ren := {
 mixed := by kernel_rfl
 f101 := Tryz.func209.trans (congrArg some (by kernel_rfl))
 f206 := Tryz.func127.trans (congrArg some (by kernel_rfl))
 f208 := Tryz.func258.trans (congrArg some (by kernel_rfl))
 t3 := Tryz.underlying3
 a3 := Tryz.isAgg3
 z3 := Tryz.sizeOf3
 v3 := Tryz.zeroValue3
 t4 := Tryz.underlying4
 a4 := Tryz.isAgg4
 z4 := Tryz.sizeOf4
 v4 := Tryz.zeroValue4
 t9 := Tryz.underlying9
 a9 := Tryz.isAgg9
 z9 := Tryz.sizeOf9
 v9 := Tryz.zeroValue9 }
def Tryz.lays146_ren : Go.Shelf.Ren := ⟨fun | 146 => 52 | 221 => 122 | 268 => 205 | 138 => 206 | 143 => 207 | 195 => 252 | 197 => 253 | 218 => 254 | 219 => 255 | 260 => 279 | 217 => 280 | 225 => 281 | 224 => 282 | 267 => 283 | 266 => 294 | 314 => 295 | n => n, fun | 9 => 9 | 31 => 37 | 3 => 3 | 4 => 4 | 0 => 0 | 105 => 343 | 21 => 21 | 5 => 5 | 46 => 90 | 119 => 375 | 139 => 378 | 138 => 377 | 146 => 379 | 51 => 365 | n => n, fun | 1 => 2 | 3 => 3 | 4 => 4 | n => n⟩
theorem Tryz.lays146 : Go.Proofs.Lays.n146 Tryz.prog Tryz.lays146_ren := {
 mixed := by kernel_rfl
 f138 := Tryz.func206.trans (congrArg some (by kernel_rfl))
 f143 := Tryz.func207.trans (congrArg some (by kernel_rfl))
 f146 := Tryz.func52.trans (congrArg some (by kernel_rfl))
 f195 := Tryz.func252.trans (congrArg some (by kernel_rfl))
 f197 := Tryz.func253.trans (congrArg some (by kernel_rfl))
 f217 := Tryz.func280.trans (congrArg some (by kernel_rfl))
 f218 := Tryz.func254.trans (congrArg some (by kernel_rfl))
 f219 := Tryz.func255.trans (congrArg some (by kernel_rfl))
 f221 := Tryz.func122.trans (congrArg some (by kernel_rfl))
 f224 := Tryz.func282.trans (congrArg some (by kernel_rfl))
 f225 := Tryz.func281.trans (congrArg some (by kernel_rfl))
 f260 := Tryz.func279.trans (congrArg some (by kernel_rfl))
 f266 := Tryz.func294.trans (congrArg some (by kernel_rfl))
 f267 := Tryz.func283.trans (congrArg some (by kernel_rfl))
 f268 := Tryz.func205.trans (congrArg some (by kernel_rfl))
 f314 := Tryz.func295.trans (congrArg some (by kernel_rfl))
 t0 := Tryz.underlying0
 a0 := Tryz.isAgg0
 z0 := Tryz.sizeOf0
 v0 := Tryz.zeroValue0
 t3 := Tryz.underlying3
 a3 := Tryz.isAgg3
 z3 := Tryz.sizeOf3
 v3 := Tryz.zeroValue3
 t4 := Tryz.underlying4
 a4 := Tryz.isAgg4
 z4 := Tryz.sizeOf4
 v4 := Tryz.zeroValue4
 t5 := Tryz.underlying5
 a5 := Tryz.isAgg5
 z5 := Tryz.sizeOf5
 v5 := Tryz.zeroValue5
 t9 := Tryz.underlying9
 a9 := Tryz.isAgg9
 z9 := Tryz.sizeOf9
 v9 := Tryz.zeroValue9
 t21 := Tryz.underlying21
 a21 := Tryz.isAgg21
 z21 := Tryz.sizeOf21
 v21 := Tryz.zeroValue21
 t31 := Tryz.underlying37
 a31 := Tryz.isAgg37
 z31 := Tryz.sizeOf37
 v31 := Tryz.zeroValue37
 t46 := Tryz.underlying90
 a46 := Tryz.isAgg90
 z46 := Tryz.sizeOf90
 v46 := Tryz.zeroValue90
 t51 := Tryz.underlying365
 a51 := Tryz.isAgg365
 z51 := Tryz.sizeOf365
 v51 := Tryz.zeroValue365
 t105 := Tryz.underlying343
 a105 := Tryz.isAgg343
 z105 := Tryz.sizeOf343
 v105 := Tryz.zeroValue343
 t119 := Tryz.underlying375
 a119 := Tryz.isAgg375
 z119 := Tryz.sizeOf375
 t138 := Tryz.underlying377
 a138 := Tryz.isAgg377
 z138 := Tryz.sizeOf377
 v138 := Tryz.zeroValue377
 t139 := Tryz.underlying378
 a139 := Tryz.isAgg378
 z139 := Tryz.sizeOf378
 v139 := Tryz.zeroValue378
 t146 := Tryz.underlying379
 a146 := Tryz.isAgg379
 z146 := Tryz.sizeOf379
 v146 := Tryz.zeroValue379
 g1 := by kernel_rfl
 g3 := by kernel_rfl
 g4 := by kernel_rfl }
end
section
open Go Go.Lib
def spl (c : UInt8) : List UInt8 → List (List UInt8)
 | [] => [[]]
 | b :: r => if b = c then [] :: spl c r else match spl c r with
  | [] => [[b]]
  | x :: l => (b :: x) :: l
theorem spl_ne (c : UInt8) : ∀ s, spl c s ≠ []
 | [] => by simp [spl]
 | b :: r => by
  unfold spl
  split
  ·simp
  ·split <;> simp
theorem index_hit (c : UInt8) (r : List UInt8) : index (c :: r) [c] = 0 := by
 unfold index
 rw [if_pos (by simp)]
theorem index_skip {b c : UInt8} (h : b ≠ c) (r : List UInt8) : index (b :: r) [c] = if index r [c] = -1 then -1 else index r [c] + 1 := by
 rw [index, if_neg (by simp [List.isPrefixOf]; exact fun e => h e.symm)]
 by_cases h1 : index r [c] = -1
 · rw [if_pos (beq_iff_eq.2 h1), if_pos h1]
 · rw [if_neg (fun e => h1 (beq_iff_eq.1 e)), if_neg h1]
theorem split_spl (c : UInt8) : ∀ s : List UInt8, split s [c] = spl c s
 | [] => by
  unfold split
  rw [count_miss (by rfl)]
  rfl
 | b :: r => by
  have ih := split_spl c r
  by_cases hb : b = c
  ·subst hb
   have h0 := index_hit b r
   unfold split
   rw [count_hit (by simp) (show index (b :: r) [b] = ((0 : Nat) : Int) from h0), Nat.add_comm 1, splitK, if_neg (by rw [h0]; decide), h0]
   unfold spl
   rw [if_pos rfl, ← ih]
   rfl
  ·have h1 := index_skip hb r
   by_cases hm : index r [c] = -1
   ·rw [if_pos hm] at h1
    have e : split r [c] = [r] := by unfold split; rw [count_miss hm]; rfl
    unfold split
    rw [count_miss h1]
    unfold spl
    rw [if_neg hb, ← ih, e]
    rfl
   ·rw [if_neg hm] at h1
    obtain ⟨i, hi⟩ : ∃ i : Nat, index r [c] = i := ⟨(index r [c]).toNat, by have := index_ge r [c]; omega⟩
    have h2 : index (b :: r) [c] = ((i + 1 : Nat) : Int) := by rw [h1, hi]; rfl
    have c1 := count_hit (sub := [c]) (by simp) hi
    have c2 := count_hit (sub := [c]) (by simp) h2
    have e1 : split r [c] = r.take i :: splitK [c] 0 (count (r.drop (i + 1)) [c]) (r.drop (i + 1)) := by
     unfold split
     rw [c1, Nat.add_comm 1, splitK, if_neg (by rw [hi]; intro e; have := beq_iff_eq.1 e; omega), hi]
     rfl
    have e2 : split (b :: r) [c] = (b :: r.take i) :: splitK [c] 0 (count (r.drop (i + 1)) [c]) (r.drop (i + 1)) := by
     unfold split
     rw [c2, Nat.add_comm 1, splitK, if_neg (by rw [h2]; intro e; have := beq_iff_eq.1 e; omega), h2]
     rfl
    unfold spl
    rw [if_neg hb, ← ih, e1, e2]
theorem cut_spl (c : UInt8) : ∀ s : List UInt8, (c ∉ s ∧ cut s [c] = (s, [], false) ∧ spl c s = [s]) ∨ ∃ a r, c ∉ a ∧ s = a ++ c :: r ∧ cut s [c] = (a, r, true) ∧ spl c s = a :: spl c r
 | [] => .inl ⟨by simp, by rfl, rfl⟩
 | b :: r => by
   by_cases hb : b = c
   · subst hb
     refine .inr ⟨[], r, by simp, rfl, ?_, by rw [spl, if_pos rfl]⟩
     unfold cut
     rw [index_hit]
     rfl
   · have h1 := index_skip hb r
     rcases cut_spl c r with ⟨hn, hc, hs⟩ | ⟨a, q, hn, rfl, hc, hs⟩
     · have hm : index r [c] = -1 := by
         unfold cut at hc
         split at hc
         · exact absurd (congrArg (·.2.2) hc) (by simp)
         · have := index_ge r [c]; omega
       rw [if_pos hm] at h1
       refine .inl ⟨by simp [hn]; exact fun e => hb e.symm, ?_, ?_⟩
       · unfold cut
         rw [h1]
         rfl
       · rw [spl, if_neg hb, hs]
     · have hm : ¬ index (a ++ c :: q) [c] = -1 := by
         intro hm
         unfold cut at hc
         rw [if_neg (by omega)] at hc
         exact absurd (congrArg (·.2.2) hc) (by simp)
       rw [if_neg hm] at h1
       obtain ⟨i, hi⟩ : ∃ i : Nat, index (a ++ c :: q) [c] = i := ⟨(index (a ++ c :: q) [c]).toNat, by have := index_ge (a ++ c :: q) [c]; omega⟩
       refine .inr ⟨b :: a, q, by simp [hn]; exact fun e => hb e.symm, rfl, ?_, ?_⟩
       · unfold cut at hc ⊢
         rw [hi, if_pos (by omega)] at hc
         rw [h1, hi, if_pos (by omega)]
         have k1 := congrArg (·.1) hc
         have k2 := congrArg (·.2.1) hc
         dsimp only at k1 k2
         have t1 : ((i : Int) + 1).toNat = i + 1 := by omega
         have t2 : (i : Int).toNat = i := by omega
         rw [t2] at k1 k2
         rw [t1, Zy2, k1]
         have : i + 1 + [c].length = (i + [c].length) + 1 := by omega
         rw [this, Zy1, k2]
       · rw [spl, if_neg hb, hs]
end
section
open Go Go.Lib
def trim45 : List UInt8 → List UInt8
 | [] => []
 | b :: r => if b = 45 then r else b :: r
def numP (s : List UInt8) : Option Int := match atoiAll s with
 | .ok v => if (trim45 s).length ≤ 3 ∧ itoa v = s then some v else none
 | _ => none
def digR : Nat → List UInt8 → Option Nat
 | n, [] => some n
 | n, b :: r => if b.toNat < 48 ∨ 57 < b.toNat then none else digR (10 * n + (b.toNat - 48)) r
def magR (neg : Bool) (w : List UInt8) : Option Nat :=
 if w.length < 1 ∨ 3 < w.length ∨ (w.head? = some 48 ∧ (1 < w.length ∨ neg = true)) then none else digR 0 w
def numR (s : List UInt8) : Option Int := if s.head? = some 45 then (magR true (s.drop 1)).map fun n : Nat => -(n : Int) else (magR false s).map fun n : Nat => (n : Int)
def dd3 (u : Nat) : List UInt8 := if u < 10 then [UInt8.ofNat (48 + u)] else if u < 100 then [UInt8.ofNat (48 + u / 10), UInt8.ofNat (48 + u % 10)] else [UInt8.ofNat (48 + u / 100), UInt8.ofNat (48 + u / 10 % 10), UInt8.ofNat (48 + u % 10)]
theorem dd3_eq {u : Nat} (h : u < 1000) : decDigits u = dd3 u := by
 unfold dd3
 split
 ·rename_i h1; exact decDigits_one h1
 ·rename_i h1
  split
  ·rename_i h2; exact decDigits_two h1 h2
  ·rename_i h2
   rw [decDigits, dif_neg h1, decDigits_two (by omega) (by omega), Nat.div_div_eq_div_mul]
   rfl
def it3 (v : Int) : List UInt8 := if v < 0 then 45 :: dd3 v.natAbs else dd3 v.toNat
theorem it3_eq {v : Int} (h : -999 ≤ v ∧ v ≤ 999) : itoa v = it3 v := by
 unfold itoa it3
 split
 · rw [dd3_eq (by omega)]
 · rw [dd3_eq (by omega)]
theorem fin_pos : ∀ u : Fin 1000, atoiAll (dd3 u.val) = .ok (u.val : Int) ∧ (trim45 (dd3 u.val)).length ≤ 3 ∧ numR (dd3 u.val) = some (u.val : Int) := by decide +kernel
theorem fin_neg : ∀ u : Fin 1000, 0 < u.val → atoiAll (45 :: dd3 u.val) = .ok (-(u.val : Int)) ∧ (trim45 (45 :: dd3 u.val)).length ≤ 3 ∧ numR (45 :: dd3 u.val) = some (-(u.val : Int)) := by decide +kernel
theorem it3_all {v : Int} (h : -999 ≤ v ∧ v ≤ 999) : atoiAll (it3 v) = .ok v ∧ (trim45 (it3 v)).length ≤ 3 ∧ numR (it3 v) = some v := by
 unfold it3
 split
 ·have := fin_neg ⟨v.natAbs, by omega⟩ (by show 0 < v.natAbs; omega)
  dsimp only at this
  rwa [show -((v.natAbs : Nat) : Int) = v by omega] at this
 ·have := fin_pos ⟨v.toNat, by omega⟩
  dsimp only at this
  rwa [show ((v.toNat : Nat) : Int) = v by omega] at this
theorem dec_head (u : Nat) : (decDigits u).head? ≠ some 45 := by
 induction u using Nat.strongRecOn with
 | _ u ih =>
  rw [decDigits]
  split
  ·rename_i h
   have : ∀ x : Fin 10, ([UInt8.ofNat (48 + x.val)] : List UInt8).head? ≠ some 45 := by decide +kernel
   exact this ⟨u, h⟩
  ·rename_i h
   have h1 := ih (u / 10) (by omega)
   have h2 : decDigits (u / 10) ≠ [] := by
    intro e
    have := decDigits_length (u / 10)
    rw [e] at this
    have := nDigits_pos (u / 10)
    simp at *
    omega
   cases hd : decDigits (u / 10) with
   | nil => exact absurd hd h2
   | cons a r => rw [hd] at h1; exact h1
theorem trim_dec (u : Nat) : trim45 (decDigits u) = decDigits u := by
 have h := dec_head u
 cases hd : decDigits u with
 | nil => rfl
 | cons a r =>
  rw [hd] at h
  show (if a = 45 then r else a :: r) = a :: r
  rw [if_neg (fun e => h (by rw [e]; rfl))]
theorem numP_iff {s : List UInt8} {v : Int} : numP s = some v ↔ (-999 ≤ v ∧ v ≤ 999) ∧ s = it3 v := by
 constructor
 ·intro h
  unfold numP at h
  split at h
  ·rename_i v' ha
   split at h
   ·rename_i hc
    cases h
    obtain ⟨h1, h2⟩ := hc
    have hb : -999 ≤ v ∧ v ≤ 999 := by
     rw [← h2] at h1
     unfold itoa at h1
     split at h1
     ·have h3 : trim45 (45 :: decDigits v.natAbs) = decDigits v.natAbs := by simp only [trim45, if_true]
      rw [h3, decDigits_length] at h1
      have h4 := lt_pow_nDigits v.natAbs
      have h5 : 10 ^ nDigits v.natAbs ≤ 10 ^ 3 := Nat.pow_le_pow_right (by decide) h1
      omega
     ·rw [trim_dec, decDigits_length] at h1
      have h4 := lt_pow_nDigits v.toNat
      have h5 : 10 ^ nDigits v.toNat ≤ 10 ^ 3 := Nat.pow_le_pow_right (by decide) h1
      omega
    exact ⟨hb, by rw [← it3_eq hb, h2]⟩
   ·cases h
  ·cases h
 ·rintro ⟨hb, rfl⟩
  obtain ⟨h1, h2, -⟩ := it3_all hb
  unfold numP
  rw [h1]
  dsimp only
  rw [if_pos ⟨h2, it3_eq hb⟩]
end
structure StrW (w : World) : Prop where
 pow : Lib.TabIs Tryz.prog w "internal/strconv.uint64pow10" .u64 Lib.pow10Tab
 ml : ∃ m, w.cell? ⟨2, 0, none⟩ = some (.int .i64 m)
 syn : ∃ ev, w.cell? ⟨5, 0, none⟩ = some ev ∧ (ev = .nilIface ∨ ∃ te pe, ev = .iface te pe)
 rng : ∃ ev, w.cell? ⟨6, 0, none⟩ = some ev ∧ (ev = .nilIface ∨ ∃ te pe, ev = .iface te pe)
 lt : 8 < w.heap.size
theorem powNamed : Tryz.prog.globalNamed "internal/strconv.uint64pow10" = some 1 := by kernel_rfl
theorem StrW.mem {w wc : World} {ex : Nat → Prop} {L : List (Nat × BA)} (h : StrW w) (M : Mem w ex wc L) (hx : ∀ b, b ≤ 8 → ¬ ex b) : StrW wc := by
 have hl := h.lt
 have hb : ∀ b, b ≤ 8 → wc.heap[b]? = w.heap[b]? := fun b hb => M.block b (by omega) (hx b hb)
 have hc : ∀ b, b ≤ 8 → ∀ v, w.cell? ⟨b, 0, none⟩ = some v → wc.cell? ⟨b, 0, none⟩ = some v := fun b h9 v hv => (World.cell?_of_block (w := w) (a := ⟨b, 0, none⟩) (hb b h9)).trans hv
 refine ⟨?_, ?_, ?_, ?_, Nat.lt_of_lt_of_le hl M.size⟩
 ·have hp := h.pow
  unfold Lib.TabIs World.var? at hp ⊢
  rw [powNamed] at hp ⊢
  simp only [Option.bind_some] at hp ⊢
  rw [hb 1 (by decide)]
  exact hp
 ·obtain ⟨m, hm⟩ := h.ml
  exact ⟨m, hc _ (by decide) _ hm⟩
 ·obtain ⟨ev, h1, h2⟩ := h.syn
  exact ⟨ev, hc _ (by decide) _ h1, h2⟩
 ·obtain ⟨ev, h1, h2⟩ := h.rng
  exact ⟨ev, hc _ (by decide) _ h1, h2⟩
theorem StrW.mem0 {w wc : World} {L : List (Nat × BA)} (h : StrW w) (M : Mem w noEx wc L) : StrW wc := h.mem M (fun _ _ h => h)
def stE (p : (List UInt8)) : List Value := [sv p]
def st (l : List (List UInt8)) : List Value := l.flatMap stE
theorem st_get : ∀ (l : List (List UInt8)) (k : Nat) {x : (List UInt8)}, l[k]? = some x → ∀ (i : Nat) (v : Value), (stE x)[i]? = some v → (st l)[k * 1 + i]? = some v
 | [], k, x, h => by simp at h
 | y :: l, 0, x, h => by
  intro i v hv
  simp only [List.getElem?_cons_zero, Option.some.injEq] at h
  subst h
  show (stE y ++ st l)[0 * 1 + i]? = some v
  rw [Nat.zero_mul, Nat.zero_add, List.getElem?_append_left (List.getElem?_eq_some_iff.1 hv).1]
  exact hv
 | y :: l, k + 1, x, h => by
  intro i v hv
  have := st_get l k (by simpa using h) i v hv
  show (stE y ++ st l)[(k + 1) * 1 + i]? = some v
  have e : (stE y).length = 1 := rfl
  rw [List.getElem?_append_right (by rw [e]; omega), e, show (k + 1) * 1 + i - 1 = k * 1 + i by omega]
  exact this
section
variable {w w' : World} {ex : Nat → Prop} {I L : List (Nat × BA)} {n b o k : Nat} {A : Option Addr} {l : List (List UInt8)} {p : (List UInt8)}
theorem Sp.stA (S : Sp w ex I A n 1 b o (st l)) (M : Mem w ex w' L) (hI : I.Sublist L) (h : l[k]? = some p) (f : Nat) (v : Value) (hv : (stE p)[f]? = some v) : w'.cell? ⟨b, o + k * 1 + f, none⟩ = some v := by
 have := S.cell w' L M hI _ _ (st_get l k h f v hv)
 rwa [← Nat.add_assoc] at this
theorem Sp.stC0 (S : Sp w ex I A n 1 b o (st l)) (M : Mem w ex w' L) (hI : I.Sublist L) (h : l[k]? = some p) : w'.cell? ⟨b, o + k * 1 + 0, none⟩ = some (sv p) := S.stA M hI h 0 _ rfl
end
theorem Itoa_any (n : Int) (w : World) (hn : -9223372036854775808 ≤ n ∧ n ≤ 9223372036854775807) (hT : StrW w) : Calls Tryz.prog 48 #[.int .i64 n] w fun e w' => e = .returned (sv (Lib.itoa n)) ∧ Below w.heap.size w w' :=
 (Any.strconv_Itoa Tryz.laysM171 n hn.1 hn.2 w hT.pow).mono fun e w' h => by
  obtain ⟨rfl, k, os, rfl⟩ := h
  exact ⟨rfl, rfl, rfl, rfl, by simp, fun b hb => Sort.heap_grow_old _ _ hb⟩
def nilB : Value → Bool
 | .nilIface => true
 | _ => false
theorem Atoi_any (s : List UInt8) (w : World) (hs : s.length ≤ 1000000) (hT : StrW w) : Calls Tryz.prog 208 #[sv s] w fun e w' => ∃ n ev, e = .returned (.tuple #[.int .i64 n, ev]) ∧ (-9223372036854775808 ≤ n ∧ n ≤ 9223372036854775807) ∧ (ev = .nilIface ∨ ∃ te pe, ev = .iface te pe) ∧ (nilB ev = true → Lib.atoiAll s = .ok n) ∧ (nilB ev = false → ∀ v, Lib.atoiAll s ≠ .ok v) ∧ Below w.heap.size w w' := by
 have hz : (⟨s.toArray⟩ : ByteArray).size = s.length := sv_size s
 have hd : (⟨s.toArray⟩ : ByteArray).data.toList = s := sv_data s
 obtain ⟨ev1, c1, e1⟩ := hT.syn
 obtain ⟨ev2, c2, e2⟩ := hT.rng
 cases h : Lib.atoiAll s with
 | ok v =>
  refine (Any.strconv_Atoi_ok Tryz.laysC172 ⟨s.toArray⟩ (by omega) v (by rw [hd]; exact h) w).mono fun e w' h9 => ?_
  obtain ⟨rfl, h9⟩ := h9
  refine ⟨v, .nilIface, rfl, Lib.atoiAll_bounds h, .inl rfl, fun _ => rfl, fun h => (by cases h), ?_⟩
  rcases h9 with rfl | ⟨t, rfl⟩
  ·exact Below.refl _ _
  ·exact ⟨rfl, rfl, rfl, by rw [Lib.bytesWorld_size]; omega, fun k hk => Lib.bytesWorld_at_old w _ _ k hk⟩
 | range =>
  refine (Any.strconv_Atoi_range Tryz.laysC172 ⟨s.toArray⟩ (by omega) (by rw [hd]; exact h) ev2 w c2 e2).mono fun e w' h9 => ?_
  obtain ⟨N, rfl, -, -, hb⟩ := h9
  have hbd := Lib.atoiSat_bounds s
  rw [← hd] at hbd
  exact ⟨_, _, rfl, ⟨by omega, by omega⟩, .inr ⟨_, _, rfl⟩, fun h => (by cases h), fun _ v hv => (by cases hv), hb⟩
 | _ =>
  refine (Any.strconv_Atoi_syntax Tryz.laysC172 ⟨s.toArray⟩ (by omega) (by rw [hd]; exact h) ev1 w c1 e1).mono fun e w' h9 => ?_
  obtain ⟨N, rfl, -, -, hb⟩ := h9
  exact ⟨_, _, rfl, ⟨by omega, by omega⟩, .inr ⟨_, _, rfl⟩, fun h => (by cases h), fun _ v hv => (by cases hv), hb⟩
theorem HasPrefix_any (s p : List UInt8) (w : World) : Calls Tryz.prog 54 #[sv s, sv p] w fun e w' => e = .returned (.bool (p.isPrefixOf s)) ∧ Below w.heap.size w w' :=
 (Any.strings_HasPrefix Tryz.lays99 ⟨s.toArray⟩ ⟨p.toArray⟩ w).mono fun e w' h => by
  obtain ⟨rfl, rfl⟩ := h
  exact ⟨by simp only [sv_data]; rfl, Below.refl _ _⟩
theorem trim_eq (s : List UInt8) : Lib.trimPrefix s [45] = trim45 s := by
 unfold Lib.trimPrefix Lib.hasPrefix
 cases s with
 | nil => rfl
 | cons b r =>
  show (if (((45 : UInt8) == b) && true) = true then _ else _) = (if b = 45 then r else b :: r)
  rw [Bool.and_true]
  by_cases h : b = 45
  ·subst h; rfl
  ·rw [if_neg h, if_neg (by simpa using fun e => h e.symm)]
theorem TrimPrefix_any (s : List UInt8) (w : World) : Calls Tryz.prog 209 #[sv s, sv [45]] w fun e w' => e = .returned (sv (trim45 s)) ∧ Below w.heap.size w w' :=
 (Any.strings_TrimPrefix Tryz.lays101 ⟨s.toArray⟩ ⟨[45].toArray⟩ w).mono fun e w' h => by
  obtain ⟨rfl, rfl⟩ := h
  exact ⟨by rw [sv_data, sv_data, trim_eq], Below.refl _ _⟩
theorem Cut_any (s : List UInt8) (p : List UInt8) (w : World) (hs : s.length ≤ 1000000) (hT : StrW w) : Calls Tryz.prog 129 #[sv s, sv p] w fun e w' => e = .returned (.tuple #[sv (Lib.cut s p).1, sv (Lib.cut s p).2.1, .bool (Lib.cut s p).2.2]) ∧ Below w.heap.size w w' := by
 obtain ⟨m, hm⟩ := hT.ml
 refine (Any.strings_Cut Tryz.lays145 ⟨s.toArray⟩ ⟨p.toArray⟩ m w (by rw [sv_size]; omega) hm).mono fun e w' h => ?_
 obtain ⟨rfl, n, rfl⟩ := h
 exact ⟨by rw [sv_data, sv_data], rfl, rfl, rfl, Nat.le_refl _, fun _ _ => rfl⟩
def SplitPost (l : List (List UInt8)) (w : World) (e : Ending) (w' : World) : Prop := ∃ g, e = .returned (.slice (some ⟨g, 0, none⟩) l.length l.length) ∧ Mem w noEx w' [(g, .cells (st l))]
theorem Split_any (s : List UInt8) (c : UInt8) (w : World) (hs : s.length ≤ 1000000) (hT : StrW w) : Calls Tryz.prog 52 #[sv s, sv [c]] w (SplitPost (spl c s) w) := by
 obtain ⟨m, hm⟩ := hT.ml
 have h1 : 1 ≤ (⟨[c].toArray⟩ : ByteArray).size := by rw [sv_size]; exact Nat.le_refl _
 refine (Any.strings_Split Tryz.lays146 (by kernel_rfl) ⟨s.toArray⟩ ⟨[c].toArray⟩ m w (by rw [sv_size]; omega) hm h1).mono fun e w' h => ?_
 obtain ⟨rfl, rfl⟩ := h
 obtain ⟨bs, hbs⟩ : ∃ bs, bs = Lib.splitB ⟨[c].toArray⟩ 0 (Lib.countB ⟨s.toArray⟩ ⟨[c].toArray⟩) ⟨s.toArray⟩ := ⟨_, rfl⟩
 have hl : bs.length = Lib.countB ⟨s.toArray⟩ ⟨[c].toArray⟩ + 1 := by rw [hbs]; exact Lib.splitB_all _ h1 0 _ _ rfl
 have hd : bs.map (·.data.toList) = spl c s := by
   rw [← split_spl, hbs, Lib.splitB_data]
   rfl
 have hn : (spl c s).length = bs.length := by rw [← hd, List.length_map]
 have hc : bs.map Value.string = st (spl c s) := by
   rw [← hd]
   clear hd hn hl hbs
   induction bs with
   | nil => rfl
   | cons b r ih =>
     show Value.string b :: r.map Value.string = sv b.data.toList :: st (r.map (·.data.toList))
     rw [ih]
 rw [← hbs, hc, ← hl, ← hn]
 exact ⟨_, rfl, (Mem.init w noEx).new _ _⟩
theorem errNil (w : World) : (binOp .eql 160 .nilIface .nilIface).run Tryz.prog w = .ok (.bool true) w := by kernel_rfl
theorem errHeld (w : World) (te : TypeId) (pe : Value) : (binOp .eql 160 (.iface te pe) .nilIface).run Tryz.prog w = .ok (.bool false) w := by kernel_rfl
theorem rn_ifnil {op : Oper} {a : Act} {w : World} {t' : TypeId} {x : Operand} {ev : Value} (ho : op.op = .binOp .eql 160 x (.const .nilIface) t') (hx : a.eval x = ev) (hev : ev = .nilIface ∨ ∃ te pe, ev = .iface te pe) : Runs Tryz.prog op a (.bool (nilB ev)) w := by
 refine rn_bin (u' := .nilIface) ho hx rfl ?_
 rcases hev with rfl | ⟨te, pe, rfl⟩
 ·rw [eqGuard_nil_constR]
  exact errNil w
 ·exact errHeld w te pe
section
open Go.ChangeShapes Go.WideShapes Go.ChangeAt Go.RowKit
def laidT : List (String × DataW Unit) := [("math/bits.deBruijn32tab", Rows.laid_math_bits_deBruijn32tab), ("math/bits.deBruijn64tab", Rows.laid_math_bits_deBruijn64tab), ("internal/strconv.uint64pow10", Rows.laid_internal_strconv_uint64pow10), ("unicode/utf8.acceptRanges", Rows.laid_unicode_utf8_acceptRanges), ("strconv.ErrRange", Rows.laid_strconv_ErrRange), ("strconv.ErrSyntax", Rows.laid_strconv_ErrSyntax), ("unicode/utf8.first", Rows.laid_unicode_utf8_first)]
theorem gPow : Tryz.prog.globalNamed "internal/strconv.uint64pow10" = some 1 := by kernel_rfl
theorem gSyn : Tryz.prog.globalNamed "strconv.ErrSyntax" = some 5 := by kernel_rfl
theorem gRng : Tryz.prog.globalNamed "strconv.ErrRange" = some 6 := by kernel_rfl
theorem g64 : Tryz.prog.globalNamed "math/bits.deBruijn64tab" = some 8 := by kernel_rfl
theorem iface_cell {n nm : String} {d : DataW Unit} {r : List (String × DataW Unit)} {W : World} {g : Nat} {ti : TypeId} {ms : Array (String × TypeId)} (h : laidMet Tryz.prog ((n, .iface nm d) :: r) W) (hg : Tryz.prog.globalNamed n = some g) (ht : (Tryz.prog.globals[g]?).map (·.type) = some ti) (hi : Tryz.prog.underlying ti = some (.interface ms)) :
   ∃ ev, W.cell? ⟨g, 0, none⟩ = some ev ∧ (ev = .nilIface ∨ ∃ te pe, ev = .iface te pe) := by
 obtain ⟨ps, ⟨g0, t0, cs0, f0, p0, q0, hg0, ht0, hv0, hd0, _, e0⟩, _, hrows⟩ := h
 obtain rfl := Option.some.inj (hg.symm.trans hg0)
 obtain rfl := Option.some.inj (ht.symm.trans ht0)
 obtain ⟨f1, u, v, hc, hn, h1⟩ := iface_of_trod hi hd0
 refine ⟨.iface u v, ?_, .inr ⟨u, v, rfl⟩⟩
 have := World.var?_cell hg0 hv0 0
 rw [this]
 have h2 := congrArg List.head? hc
 obtain ⟨l0⟩ := cs0
 rw [List.head?_eq_getElem?] at h2
 simpa using h2
theorem some_cell {n : String} {d : DataW Unit} {r : List (String × DataW Unit)} {W : World} {g : Nat} (h : laidMet Tryz.prog ((n, d) :: r) W) (hg : Tryz.prog.globalNamed n = some g) : g < W.heap.size := by
 obtain ⟨ps, ⟨g0, t0, cs0, f0, p0, q0, hg0, ht0, hv0, hd0, _, e0⟩, _, hrows⟩ := h
 obtain rfl := Option.some.inj (hg.symm.trans hg0)
 unfold World.var? at hv0
 rw [hg] at hv0
 simp only [Option.bind_some] at hv0
 rcases Nat.lt_or_ge g W.heap.size with h9 | h9
 ·exact h9
 ·rw [Array.getElem?_eq_none h9] at hv0
  cases hv0
theorem of_laidT {W : World} (h : laidMetH Tryz.prog laidT W) (hs : W.ShapedOpen Tryz.prog) : StrW W := by
 rw [MakeChecks.laidMetH_plain _ _ _ (by kernel_rfl)] at h
 have h1 : laidMet Tryz.prog (("math/bits.deBruijn64tab", Rows.laid_math_bits_deBruijn64tab) :: _) W := h.tail
 have h2 : laidMet Tryz.prog (("internal/strconv.uint64pow10", Lib.tabData .u64 Lib.pow10Tab) :: _) W := h1.tail
 have h3 := h2.tail.tail
 have h4 := h3.tail
 refine ⟨Lib.tabIs_of_head gPow (t := 364) (e := 87) (n := 20) (by kernel_rfl) (by kernel_rfl) (by kernel_rfl) (by kernel_rfl) (by kernel_rfl) h2, ?_, iface_cell h4 gSyn (ti := 160) (by kernel_rfl) Tryz.underlying160, iface_cell h3 gRng (ti := 160) (by kernel_rfl) Tryz.underlying160, some_cell h1 g64⟩
 exact cell_of_shapedOpen_int (t := 3) (zero := #[.int .i64 0]) hs (of_decide_eq_true (by kernel_rfl)) (by kernel_rfl) rfl (by kernel_rfl) (by kernel_rfl) Tryz.underlying3
section
variable {H : Type} {enc : TypeId × Value → H} {W : World}
theorem read_str {v : Value} {d : DataW H} {ps : List MemPlace} {b0 : Nat} (hv : Value.okWide Tryz.prog W .any b0 9 v) (h : DataW.Trod enc Tryz.prog W 0 (fun _ => true) true 9 v d ps) : ∃ l : List UInt8, v = sv l := by
 obtain ⟨fuel, hf⟩ := h
 obtain ⟨s, hs, -, -⟩ := DataW.trod_string Tryz.underlying9 hf
 unfold Value.okWide at hv
 simp only [Tryz.underlying9] at hv
 unfold Cell.okWide at hv
 cases v <;> simp [Value.cells, Cell.ok, Tryz.underlying9] at hv hs
 rename_i a
 exact ⟨a.data.toList, rfl⟩
theorem returnsT {a : Assume} {C : Checked} {os : Os} {f : FuncId} {fn : Func} {s : ChangeSpec} {conds : List PathCond} {apart fresh handsOn again : Bool} {X : World → Array Value → Prop}
  (hX : ∀ (w w' : World) (args : Array Value), w.heap = w'.heap → X w args → X w' args)
  (own : ownKnob C.prog.godebug = none) (started : os.Started) (noInit : C.prog.inits.idxOf? f = none) (hfn : C.prog.funcs[f]? = some fn)
  (witness : ∃ (w : World) (tape : Tape) (i : Input), w.os = os ∧ (w.forCall tape i).Shaped C.prog ∧ i.vars = [] ∧ Input.okWide C.prog (w.forCall tape i) .any w.heap.size f i ∧
   ((s.pre enc C.prog fn conds apart (w.forCall tape i).memory i.args ∧ X (w.forCall tape i).memory i.args) ∧ sizedMet enc C.prog fn (OpenSpec.ofChange s) apart (w.forCall tape i).memory i.args) ∧ a.holds C.prog (lone (Frame.enter C.prog f i.args .normal) [] (w.forCall tape i)))
  (contract : ∀ (W : World) (base : Nat) (args : Array Value) (ds gs : List (DataW H)) (before : List MemPlace),
   (∀ (j : Nat) t v, fn.params[j]? = some t → args[j]? = some v → Value.okWide C.prog W .any base t v) →
   DataW.Whole enc C.prog fn.params.toList s.vars apart W args.toList ds gs before →
   X W args → W.ShapedOpen C.prog →
   Calls C.prog f args W fun e W' => ∃ v, e = .returned v ∧ s.post enc C.prog fn apart fresh handsOn again W args v W') :
  ReturnsInHanded a C os f .any (fun w args => (s.pre enc C.prog fn conds apart w args ∧ X w args) ∧ sizedMet enc C.prog fn (OpenSpec.ofChange s) apart w args) (s.post enc C.prog fn apart fresh handsOn again) := by
 refine returnsInHanded_of_calls own started noInit witness ?_
 intro w tape i _ hsh _ hok hpre hholds
 obtain ⟨_, _, _, fn', hfn', _, _, _, _, hval⟩ := hok
 have e : fn' = fn := Option.some.inj (hfn'.symm.trans hfn)
 subst e
 obtain ⟨⟨⟨ds, gs, before, hw, hc⟩, hx⟩, hz⟩ := hpre
 have hw' := DataW.Whole.of_heap (w' := w.forCall tape i) (by rfl) hw
 refine (contract (w.forCall tape i) w.heap.size i.args ds gs before hval hw' (hX _ _ _ (by rfl) hx) hsh).mono fun e W' ⟨v, he, hp⟩ => ?_
 subst he
 exact ChangeSpec.post_blind hp
end
theorem start_shT (os : Os) (args : Array Value) : ((World.laidAll Tryz.prog os laidT).forCall (fun _ _ => 0) ⟨#[], args, []⟩).Shaped Tryz.prog := World.shaped_of_ZipB (by kernel_rfl) (by kernel_rfl)
theorem start_metT (os : Os) (args : Array Value) : laidMetH Tryz.prog laidT ((World.laidAll Tryz.prog os laidT).forCall (fun _ _ => 0) ⟨#[], args, []⟩).memory := by
 rw [MakeChecks.laidMetH_plain _ _ _ (by kernel_rfl)]
 exact laidMet_laidAll _ (by kernel_rfl) (by kernel_rfl)
end
section
open Go Go.Lib
def rangeP (p : List UInt8) : Option (List Int) := if (cut p [58]).2.2 = true then (match numP (cut p [58]).1, numP (cut p [58]).2.1 with
 | some a, some b => some [a, b]
 | _, _ => none) else none
def wordP (rg : Bool) (p : List UInt8) : Option (List Int) := if rg = true then rangeP p else (numP p).map ([·])
theorem spl_pos (c : UInt8) (s : List UInt8) : 0 < (spl c s).length := by
 have := spl_ne c s
 cases h : spl c s with
 | nil => exact absurd h this
 | cons x l => simp
end
section
open Go Go.Lib
def wordsA : Nat → List (List UInt8) → Option (List Int)
 | _, [] => some []
 | 0, p :: ws => match wordP false p, wordsA 0 ws with
  | some a, some r => some (a ++ r)
  | _, _ => none
 | k + 1, p :: ws => match wordP true p, wordsA k ws with
  | some a, some r => some (a ++ r)
  | _, _ => none
def lineA (word : List UInt8) (R N : Nat) (s : List UInt8) : Option (List Int) := match spl 32 s with
 | [] => none
 | w :: ws => if w = word ∧ ws.length = R + N then wordsA R ws else none
structure Kd where
 word : List UInt8
 rg : Nat
 nm : Nat
abbrev Kd.rd (k : Kd) (s : List UInt8) : Option (List Int) := lineA k.word k.rg k.nm s
inductive RdE where
 | bad (row : Nat)
 | ok (done : Bool) (l : List (Nat × List Int))
def RdE.cons (x : Nat × List Int) : RdE → RdE
 | .bad n => .bad n
 | .ok d l => .ok d (x :: l)
section
variable (K0 K1 K2 K3 : Kd)
def kdAt : Nat → Kd
 | 0 => K0
 | 1 => K1
 | 2 => K2
 | _ => K3
def nextAt (sh : List UInt8) (at' : Nat) (s : List UInt8) : Nat := if at' = 2 ∧ sh.isPrefixOf s = false then 3 else at'
def progL (sh : List UInt8) : Nat → Nat → List (List UInt8) → RdE
 | at', _, [] => .ok (decide (4 ≤ at')) []
 | at', i, s :: ls =>
  if 4 ≤ nextAt sh at' s then .bad (i + 1)
  else match (kdAt K0 K1 K2 K3 (nextAt sh at' s)).rd s with
   | none => .bad (i + 1)
   | some x => (progL sh (if nextAt sh at' s ≠ 2 then nextAt sh at' s + 1 else nextAt sh at' s) (i + 1) ls).cons (nextAt sh at' s, x)
def refL : Bool → Nat → List (List UInt8) → RdE
 | en, _, [] => .ok en []
 | en, i, s :: ls =>
  if en = true then .bad (i + 1)
  else if i = 0 then (match K0.rd s with | some x => (refL false 1 ls).cons (0, x) | none => .bad (i + 1))
  else if i = 1 then (match K1.rd s with | some x => (refL false 2 ls).cons (1, x) | none => .bad (i + 1))
  else match K2.rd s with
   | some x => (refL false (i + 1) ls).cons (2, x)
   | none => match K3.rd s with
    | some x => (refL true (i + 1) ls).cons (3, x)
    | none => .bad (i + 1)
end
theorem spl_head {c : UInt8} {s w : List UInt8} {ws : List (List UInt8)} (h : spl c s = w :: ws) : w <+: s := by
 rcases cut_spl c s with ⟨-, -, e⟩ | ⟨a, r, -, rfl, -, e⟩
 · rw [e] at h; cases h; exact List.prefix_refl _
 · rw [e] at h; cases h; exact List.prefix_append _ _
theorem rd_pre {k : Kd} {s : List UInt8} {x : List Int} (h : k.rd s = some x) : k.word <+: s := by
 unfold Kd.rd lineA at h
 split at h
 ·cases h
 ·rename_i w ws hs
  split at h
  ·rename_i hc
   exact hc.1 ▸ spl_head hs
  ·cases h
section
variable {K0 K1 K2 K3 : Kd}
theorem read_same (hd : ∀ s, K2.word <+: s → K3.word <+: s → False) : ∀ (ls : List (List UInt8)) (i : Nat),
  (i = 0 → progL K0 K1 K2 K3 K2.word 0 i ls = refL K0 K1 K2 K3 false i ls) ∧ (i = 1 → progL K0 K1 K2 K3 K2.word 1 i ls = refL K0 K1 K2 K3 false i ls) ∧ (2 ≤ i → progL K0 K1 K2 K3 K2.word 2 i ls = refL K0 K1 K2 K3 false i ls) ∧ progL K0 K1 K2 K3 K2.word 4 i ls = refL K0 K1 K2 K3 true i ls
 | [], i => ⟨fun _ => rfl, fun _ => rfl, fun _ => rfl, rfl⟩
 | s :: ls, i => by
  have ih := fun i => read_same hd ls i
  refine ⟨fun h => ?_, fun h => ?_, fun h => ?_, ?_⟩
  ·subst h
   rw [progL, refL, show nextAt K2.word 0 s = 0 from rfl, if_neg (show ¬ 4 ≤ 0 by decide), if_neg (show ¬ false = true by decide), if_pos (show (0 : Nat) = 0 from rfl), if_pos (show (0 : Nat) ≠ 2 by decide)]
   show (match K0.rd s with | none => _ | some x => _) = _
   cases K0.rd s with
   | none => rfl
   | some x => exact congrArg (RdE.cons (0, x)) ((ih 1).2.1 rfl)
  ·subst h
   rw [progL, refL, show nextAt K2.word 1 s = 1 from rfl, if_neg (show ¬ 4 ≤ 1 by decide), if_neg (show ¬ false = true by decide), if_neg (show ¬ (1 : Nat) = 0 by decide), if_pos (show (1 : Nat) = 1 from rfl), if_pos (show (1 : Nat) ≠ 2 by decide)]
   show (match K1.rd s with | none => _ | some x => _) = _
   cases K1.rd s with
   | none => rfl
   | some x => exact congrArg (RdE.cons (1, x)) ((ih 2).2.2.1 (by omega))
  ·rw [progL, refL, if_neg (show ¬ (false = true) by decide), if_neg (show ¬ i = 0 by omega), if_neg (show ¬ i = 1 by omega)]
   by_cases hp : K2.word.isPrefixOf s = true
   ·have e : nextAt K2.word 2 s = 2 := by unfold nextAt; rw [if_neg (by rw [hp]; simp)]
    rw [e, if_neg (show ¬ 4 ≤ 2 by decide), if_neg (show ¬ (2 : Nat) ≠ 2 by decide)]
    show (match K2.rd s with | none => _ | some x => _) = _
    cases h2 : K2.rd s with
    | none =>
     dsimp only
     cases h3 : K3.rd s with
     | none => rfl
     | some x => exact (hd s (List.isPrefixOf_iff_prefix.1 hp) (rd_pre h3)).elim
    | some x => exact congrArg (RdE.cons (2, x)) ((ih (i + 1)).2.2.1 (by omega))
   ·have hp : K2.word.isPrefixOf s = false := Bool.eq_false_iff.2 hp
    have e : nextAt K2.word 2 s = 3 := by unfold nextAt; rw [if_pos ⟨rfl, hp⟩]
    rw [e, if_neg (show ¬ 4 ≤ 3 by decide), if_pos (show (3 : Nat) ≠ 2 by decide)]
    show (match K3.rd s with | none => _ | some x => _) = _
    cases h2 : K2.rd s with
    | some x =>
     have := List.isPrefixOf_iff_prefix.2 (rd_pre h2)
     rw [hp] at this
     cases this
    | none =>
     cases h3 : K3.rd s with
     | none => rfl
     | some x => exact congrArg (RdE.cons (3, x)) (ih (i + 1)).2.2.2
  ·rw [progL, refL, show nextAt K2.word 4 s = 4 from rfl, if_pos (show 4 ≤ 4 from Nat.le_refl _), if_pos (show true = true from rfl)]
end
end
section
open Go Go.Lib
def joinC (c : UInt8) : List (List UInt8) → List UInt8
 | [] => []
 | [x] => x
 | x :: y :: l => x ++ c :: joinC c (y :: l)
theorem joinC_cons {c : UInt8} {x : List UInt8} {l : List (List UInt8)} (h : l ≠ []) : joinC c (x :: l) = x ++ c :: joinC c l := by
 cases l with
 | nil => exact absurd rfl h
 | cons y l => rfl
theorem spl_join (c : UInt8) : ∀ s, joinC c (spl c s) = s
 | [] => rfl
 | b :: r => by
   have ih := spl_join c r
   unfold spl
   split
   · rename_i h
     rw [joinC_cons (spl_ne c r), ih, h]; rfl
   · cases h : spl c r with
     | nil => exact absurd h (spl_ne c r)
     | cons x l =>
       rw [h] at ih
       dsimp only
       cases l with
       | nil => exact congrArg (b :: ·) ih
       | cons y l => exact congrArg (b :: ·) ih
theorem spl_none {c : UInt8} {s : List UInt8} (h : c ∉ s) : spl c s = [s] := by
 rcases cut_spl c s with ⟨-, -, e⟩ | ⟨a, r, -, rfl, -, -⟩
 · exact e
 · exact absurd (by simp) h
theorem spl_app {c : UInt8} {a r : List UInt8} (h : c ∉ a) : spl c (a ++ c :: r) = a :: spl c r := by
 induction a with
 | nil => show spl c (c :: r) = _; rw [spl, if_pos rfl]
 | cons b a ih =>
  rw [List.mem_cons, not_or] at h
  show spl c (b :: (a ++ c :: r)) = _
  rw [spl, if_neg (fun e => h.1 e.symm), ih h.2]
theorem join_spl {c : UInt8} : ∀ {l : List (List UInt8)}, l ≠ [] → (∀ x ∈ l, c ∉ x) → spl c (joinC c l) = l
 | [], h, _ => absurd rfl h
 | [x], _, h => spl_none (h x Zz2)
 | x :: y :: l, _, h => by
  rw [joinC_cons (by simp), spl_app (h x Zz2), join_spl (by simp) fun z hz => h z (Zz1 hz)]
abbrev sm (v : Int) : Prop := -999 ≤ v ∧ v ≤ 999
theorem numP_it {v : Int} (h : sm v) : numP (it3 v) = some v := numP_iff.2 ⟨h, rfl⟩
theorem fin_free : ∀ u : Fin 1000, (58 : UInt8) ∉ dd3 u.val ∧ (32 : UInt8) ∉ dd3 u.val ∧ (10 : UInt8) ∉ dd3 u.val := by decide +kernel
theorem it3_free {v : Int} (h : sm v) : (58 : UInt8) ∉ it3 v ∧ (32 : UInt8) ∉ it3 v ∧ (10 : UInt8) ∉ it3 v := by
 unfold it3
 split
 ·have := fin_free ⟨v.natAbs, by omega⟩
  simp only [List.mem_cons, not_or]
  exact ⟨⟨by decide, this.1⟩, ⟨by decide, this.2.1⟩, by decide, this.2.2⟩
 ·exact fin_free ⟨v.toNat, by omega⟩
theorem word_one {p : List UInt8} {x : List Int} : wordP false p = some x ↔ ∃ a, sm a ∧ x = [a] ∧ p = it3 a := by
 unfold wordP
 rw [if_neg (by decide)]
 constructor
 ·intro h
  obtain ⟨a, ha, rfl⟩ := Option.map_eq_some_iff.1 h
  obtain ⟨hb, e⟩ := numP_iff.1 ha
  exact ⟨a, hb, rfl, e⟩
 ·rintro ⟨a, ha, rfl, rfl⟩
  rw [numP_it ha]; rfl
theorem word_two {p : List UInt8} {x : List Int} : wordP true p = some x ↔ ∃ a b, sm a ∧ sm b ∧ x = [a, b] ∧ p = it3 a ++ 58 :: it3 b := by
 unfold wordP rangeP
 rw [if_pos rfl]
 constructor
 ·intro h
  rcases cut_spl 58 p with ⟨hn, hc, hs⟩ | ⟨a, r, hn, rfl, hc, hs⟩
  ·rw [hc, if_neg (by simp)] at h; cases h
  ·rw [hc, if_pos rfl] at h
   dsimp only at h
   cases h1 : numP a with
   | none => rw [h1] at h; cases h
   | some u =>
    cases h2 : numP r with
    | none => rw [h1, h2] at h; cases h
    | some v =>
     rw [h1, h2] at h
     cases h
     obtain ⟨b1, rfl⟩ := numP_iff.1 h1
     obtain ⟨b2, rfl⟩ := numP_iff.1 h2
     exact ⟨u, v, b1, b2, rfl, rfl⟩
 ·rintro ⟨a, b, ha, hb, rfl, rfl⟩
  rcases cut_spl 58 (it3 a ++ 58 :: it3 b) with ⟨hn, -, -⟩ | ⟨u, r, hn, he, hc, hs⟩
  ·exact absurd (by simp) hn
  ·have e := spl_app (c := 58) (r := it3 b) (it3_free ha).1
   rw [hs] at e
   injection e with e1 e2
   subst e1
   have e3 : r = it3 b := by
    have := List.append_cancel_left he
    injection this with _ h; exact h.symm
   rw [hc, if_pos rfl]
   dsimp only
   rw [e3, numP_it ha, numP_it hb]
def wt : Nat → List Int → List (List UInt8)
 | k + 1, a :: b :: xs => (it3 a ++ 58 :: it3 b) :: wt k xs
 | 0, a :: xs => it3 a :: wt 0 xs
 | _, _ => []
theorem words_text : ∀ (ws : List (List UInt8)) (R N : Nat) (xs : List Int), ws.length = R + N → (wordsA R ws = some xs ↔ ws = wt R xs ∧ xs.length = 2 * R + N ∧ ∀ v ∈ xs, sm v)
 | [], R, N, xs, h => by
  obtain ⟨rfl, rfl⟩ : R = 0 ∧ N = 0 := by simp at h; omega
  constructor
  ·intro h; cases h; exact ⟨rfl, rfl, fun v hv => (by cases hv)⟩
  ·rintro ⟨-, h2, -⟩
   rw [List.length_eq_zero_iff.1 (by omega : xs.length = 0)]; rfl
 | p :: ws, 0, N, xs, h => by
  obtain ⟨N, rfl⟩ : ∃ m, N = m + 1 := ⟨N - 1, by simp at h; omega⟩
  have ih := fun ys => words_text ws 0 N ys (by simp at h ⊢; omega)
  unfold wordsA
  constructor
  ·intro hh
   cases h1 : wordP false p with
   | none => rw [h1] at hh; cases hh
   | some x =>
    cases h2 : wordsA 0 ws with
    | none => rw [h1, h2] at hh; cases hh
    | some r =>
     rw [h1, h2] at hh
     cases hh
     obtain ⟨a, ha, rfl, rfl⟩ := word_one.1 h1
     obtain ⟨e1, e2, e3⟩ := (ih r).1 h2
     refine ⟨by show _ = it3 a :: wt 0 r; rw [e1], by simp [e2], fun v hv => ?_⟩
     rcases List.mem_cons.1 hv with rfl | hv
     ·exact ha
     ·exact e3 v hv
  ·rintro ⟨e1, e2, e3⟩
   cases xs with
   | nil => simp at e2
   | cons a r =>
    injection e1 with e1 e4
    have h2 := (ih r).2 ⟨e4, by simp at e2; omega, fun v hv => e3 v (Zz1 hv)⟩
    rw [word_one.2 ⟨a, e3 a Zz2, rfl, e1⟩, h2]; rfl
 | p :: ws, R + 1, N, xs, h => by
  have ih := fun ys => words_text ws R N ys (by simp at h ⊢; omega)
  unfold wordsA
  constructor
  ·intro hh
   cases h1 : wordP true p with
   | none => rw [h1] at hh; cases hh
   | some x =>
    cases h2 : wordsA R ws with
    | none => rw [h1, h2] at hh; cases hh
    | some r =>
     rw [h1, h2] at hh
     cases hh
     obtain ⟨a, b, ha, hb, rfl, rfl⟩ := word_two.1 h1
     obtain ⟨e1, e2, e3⟩ := (ih r).1 h2
     refine ⟨by show _ = (it3 a ++ 58 :: it3 b) :: wt R r; rw [e1], by simp [e2]; omega, fun v hv => ?_⟩
     rcases List.mem_cons.1 hv with rfl | hv
     ·exact ha
     ·rcases List.mem_cons.1 hv with rfl | hv
      ·exact hb
      ·exact e3 v hv
  ·rintro ⟨e1, e2, e3⟩
   match xs, e1, e2, e3 with
   | [], _, e2, _ => simp at e2; omega
   | [a], _, e2, _ => simp at e2; omega
   | a :: b :: r, e1, e2, e3 =>
    injection e1 with e1 e4
    have h2 := (ih r).2 ⟨e4, by simp at e2; omega, fun v hv => e3 v (Zz1 (Zz1 hv))⟩
    rw [word_two.2 ⟨a, b, e3 a Zz2, e3 b (Zz1 Zz2), rfl, e1⟩, h2]; rfl
theorem wt_free {c : UInt8} (hc : c = 32 ∨ c = 10) : ∀ (R : Nat) (xs : List Int), (∀ v ∈ xs, sm v) → ∀ p ∈ wt R xs, c ∉ p
 | 0, [], _, p, hp => by cases hp
 | R + 1, [], _, p, hp => by cases hp
 | R + 1, [_], _, p, hp => by cases hp
 | 0, a :: xs, h, p, hp => by
  rcases List.mem_cons.1 hp with rfl | hp
  ·have := it3_free (h a Zz2)
   rcases hc with rfl | rfl
   ·exact this.2.1
   ·exact this.2.2
  ·exact wt_free hc 0 xs (fun v hv => h v (Zz1 hv)) p hp
 | R + 1, a :: b :: xs, h, p, hp => by
  rcases List.mem_cons.1 hp with rfl | hp
  ·have h1 := it3_free (h a Zz2)
   have h2 := it3_free (h b (Zz1 Zz2))
   simp only [List.mem_append, List.mem_cons, not_or]
   rcases hc with rfl | rfl
   ·exact ⟨h1.2.1, by decide, h2.2.1⟩
   ·exact ⟨h1.2.2, by decide, h2.2.2⟩
  ·exact wt_free hc R xs (fun v hv => h v (Zz1 (Zz1 hv))) p hp
theorem line_text {word s : List UInt8} {R N : Nat} {xs : List Int} (hw : (32 : UInt8) ∉ word) : lineA word R N s = some xs ↔ s = joinC 32 (word :: wt R xs) ∧ (wt R xs).length = R + N ∧ xs.length = 2 * R + N ∧ ∀ v ∈ xs, sm v := by
 constructor
 ·intro h
  unfold lineA at h
  split at h
  ·cases h
  ·rename_i w ws hs
   split at h
   ·rename_i hc
    obtain ⟨e1, e2, e3⟩ := (words_text ws R N xs hc.2).1 h
    refine ⟨?_, by rw [← e1]; exact hc.2, e2, e3⟩
    rw [← e1, ← hc.1, ← hs, spl_join]
   ·cases h
 ·rintro ⟨rfl, h2, h3, h4⟩
  have e : spl 32 (joinC 32 (word :: wt R xs)) = word :: wt R xs := join_spl (by simp) fun x hx => by
   rcases List.mem_cons.1 hx with rfl | hx
   ·exact hw
   ·exact wt_free (.inl rfl) R xs h4 x hx
  unfold lineA
  rw [e]
  dsimp only
  rw [if_pos ⟨rfl, h2⟩]
  exact (words_text _ R N xs h2).2 ⟨rfl, h3, h4⟩
end
section
open Go Go.Lib
def seqOk : Nat → List (Nat × List Int) → Prop
 | a, [] => a = 4
 | 0, x :: r => x.1 = 0 ∧ seqOk 1 r
 | 1, x :: r => x.1 = 1 ∧ seqOk 2 r
 | 2, x :: r => x.1 = 2 ∧ seqOk 2 r ∨ x.1 = 3 ∧ seqOk 4 r
 | _, _ :: _ => False
theorem cons_ok {x : Nat × List Int} {r : RdE} {d : Bool} {l : List (Nat × List Int)} : r.cons x = .ok d l ↔ ∃ l', l = x :: l' ∧ r = .ok d l' := by
 cases r with
 | bad n => exact ⟨fun h => (by cases h), fun ⟨_, _, h⟩ => (by cases h)⟩
 | ok d' l' =>
  constructor
  ·intro h; cases h; exact ⟨l', rfl, rfl⟩
  ·rintro ⟨l2, rfl, h⟩; cases h; rfl
section
variable {K0 K1 K2 K3 : Kd}
def readAs (K0 K1 K2 K3 : Kd) : List (List UInt8) → List (Nat × List Int) → Prop
 | [], [] => True
 | s :: ls, x :: l => (kdAt K0 K1 K2 K3 x.1).rd s = some x.2 ∧ readAs K0 K1 K2 K3 ls l
 | _, _ => False
theorem ref_ok : ∀ (ls : List (List UInt8)) (i : Nat) (l : List (Nat × List Int)),
  (refL K0 K1 K2 K3 true i ls = .ok true l → ls = [] ∧ l = []) ∧
  (i = 0 → refL K0 K1 K2 K3 false i ls = .ok true l → seqOk 0 l ∧ readAs K0 K1 K2 K3 ls l) ∧
  (i = 1 → refL K0 K1 K2 K3 false i ls = .ok true l → seqOk 1 l ∧ readAs K0 K1 K2 K3 ls l) ∧
  (2 ≤ i → refL K0 K1 K2 K3 false i ls = .ok true l → seqOk 2 l ∧ readAs K0 K1 K2 K3 ls l)
 | [], i, l => ⟨fun h => (by cases h; exact ⟨rfl, rfl⟩), fun _ h => (by cases h), fun _ h => (by cases h), fun _ h => (by cases h)⟩
 | s :: ls, i, l => by
  have ih := fun i l => ref_ok ls i l
  refine ⟨fun h => ?_, fun hi h => ?_, fun hi h => ?_, fun hi h => ?_⟩
  ·rw [refL, if_pos rfl] at h; cases h
  ·subst hi
   rw [refL, if_neg (show ¬ false = true by decide), if_pos (show (0 : Nat) = 0 from rfl)] at h
   cases h0 : K0.rd s with
   | none => rw [h0] at h; cases h
   | some x =>
    rw [h0] at h
    obtain ⟨l', rfl, h9⟩ := cons_ok.1 h
    obtain ⟨a, b⟩ := (ih 1 l').2.2.1 rfl h9
    exact ⟨⟨rfl, a⟩, h0, b⟩
  ·subst hi
   rw [refL, if_neg (show ¬ false = true by decide), if_neg (show ¬ (1 : Nat) = 0 by decide), if_pos (show (1 : Nat) = 1 from rfl)] at h
   cases h0 : K1.rd s with
   | none => rw [h0] at h; cases h
   | some x =>
    rw [h0] at h
    obtain ⟨l', rfl, h9⟩ := cons_ok.1 h
    obtain ⟨a, b⟩ := (ih 2 l').2.2.2 (Nat.le_refl _) h9
    exact ⟨⟨rfl, a⟩, h0, b⟩
  ·rw [refL, if_neg (show ¬ false = true by decide), if_neg (show ¬ i = 0 by omega), if_neg (show ¬ i = 1 by omega)] at h
   cases h0 : K2.rd s with
   | some x =>
    rw [h0] at h
    obtain ⟨l', rfl, h9⟩ := cons_ok.1 h
    obtain ⟨a, b⟩ := (ih (i + 1) l').2.2.2 (by omega) h9
    exact ⟨.inl ⟨rfl, a⟩, h0, b⟩
   | none =>
    rw [h0] at h
    dsimp only at h
    cases h3 : K3.rd s with
    | none => rw [h3] at h; cases h
    | some x =>
     rw [h3] at h
     obtain ⟨l', rfl, h9⟩ := cons_ok.1 h
     obtain ⟨rfl, rfl⟩ := (ih (i + 1) l').1 h9
     exact ⟨.inr ⟨rfl, rfl⟩, h3, trivial⟩
theorem ok_ref (hd : ∀ s, K2.word <+: s → K3.word <+: s → False) : ∀ (ls : List (List UInt8)) (i : Nat) (l : List (Nat × List Int)), readAs K0 K1 K2 K3 ls l →
  (seqOk 4 l → refL K0 K1 K2 K3 true i ls = .ok true l) ∧ (i = 0 → seqOk 0 l → refL K0 K1 K2 K3 false i ls = .ok true l) ∧ (i = 1 → seqOk 1 l → refL K0 K1 K2 K3 false i ls = .ok true l) ∧ (2 ≤ i → seqOk 2 l → refL K0 K1 K2 K3 false i ls = .ok true l)
 | [], i, [], _ => ⟨fun _ => rfl, fun _ h => absurd h (by unfold seqOk; decide), fun _ h => absurd h (by unfold seqOk; decide), fun _ h => absurd h (by unfold seqOk; decide)⟩
 | [], _, _ :: _, h => h.elim
 | _ :: _, _, [], h => h.elim
 | s :: ls, i, x :: l, h => by
  obtain ⟨hr, h⟩ := h
  have ih := fun i => ok_ref hd ls i l h
  refine ⟨fun hs => hs.elim, fun hi hs => ?_, fun hi hs => ?_, fun hi hs => ?_⟩
  ·subst hi
   obtain ⟨e, hs⟩ := hs
   rw [e] at hr
   have hr : K0.rd s = some x.2 := hr
   rw [refL, if_neg (show ¬ false = true by decide), if_pos (show (0 : Nat) = 0 from rfl), hr]
   exact cons_ok.2 ⟨l, by rw [← e], (ih 1).2.2.1 rfl hs⟩
  ·subst hi
   obtain ⟨e, hs⟩ := hs
   rw [e] at hr
   have hr : K1.rd s = some x.2 := hr
   rw [refL, if_neg (show ¬ false = true by decide), if_neg (show ¬ (1 : Nat) = 0 by decide), if_pos (show (1 : Nat) = 1 from rfl), hr]
   exact cons_ok.2 ⟨l, by rw [← e], (ih 2).2.2.2 (Nat.le_refl _) hs⟩
  ·rw [refL, if_neg (show ¬ false = true by decide), if_neg (show ¬ i = 0 by omega), if_neg (show ¬ i = 1 by omega)]
   rcases hs with ⟨e, hs⟩ | ⟨e, hs⟩
   ·rw [e] at hr
    have hr : K2.rd s = some x.2 := hr
    rw [hr]
    exact cons_ok.2 ⟨l, by rw [← e], (ih (i + 1)).2.2.2 (by omega) hs⟩
   ·rw [e] at hr
    have hr : K3.rd s = some x.2 := hr
    have h2 : K2.rd s = none := by
     cases h2 : K2.rd s with
     | none => rfl
     | some y => exact (hd s (rd_pre h2) (rd_pre hr)).elim
    rw [h2, hr]
    exact cons_ok.2 ⟨l, by rw [← e], (ih (i + 1)).1 hs⟩
end
end
section
open Go Go.Lib
def tongueW : List UInt8 := [116, 111, 110, 103, 117, 101]
def fileW : List UInt8 := [102, 105, 108, 101]
def shiftW : List UInt8 := [115, 104, 105, 102, 116]
def passW : List UInt8 := [112, 97, 115, 115]
abbrev KT : Kd := ⟨tongueW, 3, 0⟩
abbrev KF : Kd := ⟨fileW, 4, 1⟩
abbrev KS : Kd := ⟨shiftW, 1, 0⟩
abbrev KP : Kd := ⟨passW, 0, 2⟩
def zeroJ : Jb := { p0 := 0, p1 := 0, t0 := 0, t1 := 0, r0 := 0, r1 := 0, u0 := 0, u1 := 0, d0 := 0, d1 := 0, a0 := 0, a1 := 0, b0 := 0, b1 := 0, le := 0, sh := [], wi := 0, me := 0 }
def putK : Nat → List Int → Jb → Jb
 | 0, [p0, p1, t0, t1, r0, r1], j => { j with p0 := p0, p1 := p1, t0 := t0, t1 := t1, r0 := r0, r1 := r1 }
 | 1, [u0, u1, d0, d1, a0, a1, b0, b1, le], j => { j with u0 := u0, u1 := u1, d0 := d0, d1 := d1, a0 := a0, a1 := a1, b0 := b0, b1 := b1, le := le }
 | 2, [x, y], j => { j with sh := j.sh ++ [(x, y)] }
 | 3, [wi, me], j => { j with wi := wi, me := me }
 | _, _, j => j
def foldK (l : List (Nat × List Int)) (j : Jb) : Jb := l.foldl (fun j p => putK p.1 p.2 j) j
def endR (rows : List (List UInt8)) : RdE → Jb × Int × Int
 | .bad r => (zeroJ, (r : Int), 2)
 | .ok d l => if d = false ∨ rows.getLast? ≠ some [] then (zeroJ, (rows.length : Int), 2) else if checkJ (foldK l zeroJ) ≠ 0 then (zeroJ, 0, checkJ (foldK l zeroJ)) else (foldK l zeroJ, 0, 0)
def readT (t : List UInt8) : Jb × Int × Int := if 300 < t.length then (zeroJ, 0, 10) else endR (spl 10 t) (progL KT KF KS KP shiftW 0 0 (spl 10 t).dropLast)
def readR (t : List UInt8) : Jb × Int × Int := if 300 < t.length then (zeroJ, 0, 10) else endR (spl 10 t) (refL KT KF KS KP false 0 (spl 10 t).dropLast)
theorem pre_two {s : List UInt8} (h1 : shiftW <+: s) (h2 : passW <+: s) : False := by
 obtain ⟨a, ha⟩ := h1
 obtain ⟨b, hb⟩ := h2
 rw [← ha] at hb
 have := congrArg List.head? hb
 simp [shiftW, passW] at this
theorem read_eq (t : List UInt8) : readT t = readR t := by
 unfold readT readR
 rw [((read_same (K0 := KT) (K1 := KF) (K2 := KS) (K3 := KP) (fun s h1 h2 => pre_two h1 h2) (spl 10 t).dropLast 0).1 rfl)]
def rgT : List (Int × Int) → List UInt8
 | [] => []
 | p :: l => (32 :: (itoa p.1 ++ 58 :: itoa p.2)) ++ rgT l
def writeT (j : Jb) : List UInt8 :=
 (tongueW ++ rgT [(j.p0, j.p1), (j.t0, j.t1), (j.r0, j.r1)] ++ [10]) ++ (fileW ++ rgT [(j.u0, j.u1), (j.d0, j.d1), (j.a0, j.a1), (j.b0, j.b1)] ++ [32] ++ itoa j.le ++ [10]) ++ j.sh.flatMap (fun x => shiftW ++ rgT [x] ++ [10]) ++ (passW ++ [32] ++ itoa j.wi ++ [32] ++ itoa j.me ++ [10])
def recOf (j : Jb) : List (Nat × List Int) := (0, [j.p0, j.p1, j.t0, j.t1, j.r0, j.r1]) :: (1, [j.u0, j.u1, j.d0, j.d1, j.a0, j.a1, j.b0, j.b1, j.le]) :: (j.sh.map (fun x => (2, [x.1, x.2])) ++ [(3, [j.wi, j.me])])
def lineK : Nat × List Int → List UInt8
 | (k, xs) => joinC 32 ((kdAt KT KF KS KP k).word :: wt (kdAt KT KF KS KP k).rg xs)
structure Jb.sm (j : Jb) : Prop where
 one : ∀ v ∈ [j.p0, j.p1, j.t0, j.t1, j.r0, j.r1], Go.Proofs.YtmdbdaofjepelaaGreatDoor.sm v
 two : ∀ v ∈ [j.u0, j.u1, j.d0, j.d1, j.a0, j.a1, j.b0, j.b1, j.le], Go.Proofs.YtmdbdaofjepelaaGreatDoor.sm v
 sh : ∀ x ∈ j.sh, Go.Proofs.YtmdbdaofjepelaaGreatDoor.sm x.1 ∧ Go.Proofs.YtmdbdaofjepelaaGreatDoor.sm x.2
 end' : ∀ v ∈ [j.wi, j.me], Go.Proofs.YtmdbdaofjepelaaGreatDoor.sm v
theorem Jb.good.sm {j : Jb} (h : j.good) : j.sm := by
 have h1 := h.p
 have h2 := h.t
 have h3 := h.r
 have h4 := h.u
 have h5 := h.d
 have h6 := h.a
 have h7 := h.b
 have h8 := h.le
 have h9 := h.wi
 have h10 := h.me
 refine ⟨?_, ?_, fun x hx => ?_, ?_⟩
 ·intro v hv
  simp only [List.mem_cons, List.not_mem_nil, or_false] at hv
  rcases hv with rfl | rfl | rfl | rfl | rfl | rfl <;> exact ⟨by omega, by omega⟩
 ·intro v hv
  simp only [List.mem_cons, List.not_mem_nil, or_false] at hv
  rcases hv with rfl | rfl | rfl | rfl | rfl | rfl | rfl | rfl | rfl <;> exact ⟨by omega, by omega⟩
 ·have := h.sh x hx
  exact ⟨⟨by omega, by omega⟩, by omega, by omega⟩
 ·intro v hv
  simp only [List.mem_cons, List.not_mem_nil, or_false] at hv
  rcases hv with rfl | rfl <;> exact ⟨by omega, by omega⟩
theorem foldK_shs (sh : List (Int × Int)) (r : List (Nat × List Int)) : ∀ j : Jb, foldK (sh.map (fun x => (2, [x.1, x.2])) ++ r) j = foldK r { j with sh := j.sh ++ sh } := by
 induction sh with
 | nil => intro j; rw [List.append_nil]; rfl
 | cons x l ih =>
  intro j
  rw [List.map_cons, List.cons_append]
  show foldK (l.map _ ++ r) { j with sh := j.sh ++ [(x.1, x.2)] } = _
  rw [ih]
  simp
theorem fold_rec (j : Jb) : foldK (recOf j) zeroJ = j := by
 unfold recOf
 show foldK (j.sh.map _ ++ [(3, [j.wi, j.me])]) _ = j
 rw [foldK_shs]
 show ({ p0 := j.p0, p1 := j.p1, t0 := j.t0, t1 := j.t1, r0 := j.r0, r1 := j.r1, u0 := j.u0, u1 := j.u1, d0 := j.d0, d1 := j.d1, a0 := j.a0, a1 := j.a1, b0 := j.b0, b1 := j.b1, le := j.le, sh := [] ++ j.sh, wi := j.wi, me := j.me } : Jb) = j
 rw [List.nil_append]
def okRec (p : Nat × List Int) : Prop := p.1 ≤ 3 ∧ (wt (kdAt KT KF KS KP p.1).rg p.2).length = (kdAt KT KF KS KP p.1).rg + (kdAt KT KF KS KP p.1).nm ∧ p.2.length = 2 * (kdAt KT KF KS KP p.1).rg + (kdAt KT KF KS KP p.1).nm ∧ ∀ v ∈ p.2, Go.Proofs.YtmdbdaofjepelaaGreatDoor.sm v
theorem word_free (k : Nat) : (32 : UInt8) ∉ (kdAt KT KF KS KP k).word ∧ (10 : UInt8) ∉ (kdAt KT KF KS KP k).word := by
 rcases k with _ | _ | _ | k
 · exact ⟨by decide, by decide⟩
 · exact ⟨by decide, by decide⟩
 · exact ⟨by decide, by decide⟩
 · exact ⟨show (32 : UInt8) ∉ passW by decide, show (10 : UInt8) ∉ passW by decide⟩
theorem rd_iff {k : Nat} {s : List UInt8} {xs : List Int} (hk : k ≤ 3) : (kdAt KT KF KS KP k).rd s = some xs ↔ s = lineK (k, xs) ∧ okRec (k, xs) := by
 rw [Kd.rd, line_text (word_free k).1]
 exact ⟨fun h => ⟨h.1, hk, h.2.1, h.2.2.1, h.2.2.2⟩, fun h => ⟨h.1, h.2.2.1, h.2.2.2.1, h.2.2.2.2⟩⟩
theorem readAs_iff : ∀ (ls : List (List UInt8)) (l : List (Nat × List Int)), (∀ p ∈ l, p.1 ≤ 3) → (readAs KT KF KS KP ls l ↔ ls = l.map lineK ∧ ∀ p ∈ l, okRec p)
 | [], [], _ => ⟨fun _ => ⟨rfl, fun p hp => (by cases hp)⟩, fun _ => trivial⟩
 | [], x :: l, _ => ⟨fun h => h.elim, fun h => (by cases h.1)⟩
 | s :: ls, [], _ => ⟨fun h => h.elim, fun h => (by cases h.1)⟩
 | s :: ls, x :: l, hl => by
  have ih := readAs_iff ls l fun p hp => hl p (Zz1 hp)
  have h3 := hl x Zz2
  show (kdAt KT KF KS KP x.1).rd s = some x.2 ∧ readAs KT KF KS KP ls l ↔ _
  rw [ih, rd_iff h3, List.map_cons]
  constructor
  ·rintro ⟨⟨rfl, h1⟩, rfl, h2⟩
   exact ⟨rfl, fun p hp => by
    rcases List.mem_cons.1 hp with rfl | hp
    ·exact h1
    ·exact h2 p hp⟩
  ·rintro ⟨h1, h2⟩
   injection h1 with h1 h4
   exact ⟨⟨h1, h2 x Zz2⟩, h4, fun p hp => h2 p (Zz1 hp)⟩
theorem rec_ok {j : Jb} (h : j.sm) : ∀ p ∈ recOf j, okRec p := by
 intro p hp
 unfold recOf at hp
 rcases List.mem_cons.1 hp with rfl | hp
 ·exact ⟨by omega, rfl, rfl, h.one⟩
 ·rcases List.mem_cons.1 hp with rfl | hp
  ·exact ⟨by omega, rfl, rfl, h.two⟩
  ·rcases List.mem_append.1 hp with hp | hp
   ·obtain ⟨x, hx, rfl⟩ := List.mem_map.1 hp
    exact ⟨by omega, rfl, rfl, fun v hv => by
     have := h.sh x hx
     simp only [List.mem_cons, List.not_mem_nil, or_false] at hv
     rcases hv with rfl | rfl
     ·exact this.1
     ·exact this.2⟩
   ·rcases List.mem_singleton.1 hp with rfl
    exact ⟨by omega, rfl, rfl, h.end'⟩
theorem rec_seq (j : Jb) : seqOk 0 (recOf j) := by
 refine ⟨rfl, rfl, ?_⟩
 generalize j.sh = sh
 induction sh with
 | nil => exact .inr ⟨rfl, rfl⟩
 | cons x l ih => exact .inl ⟨rfl, ih⟩
theorem rec_lines (j : Jb) : refL KT KF KS KP false 0 ((recOf j).map lineK) = .ok true (recOf j) ↔ ∀ p ∈ recOf j, okRec p := by
 have h3 : ∀ p ∈ recOf j, p.1 ≤ 3 := by
  intro p hp
  unfold recOf at hp
  rcases List.mem_cons.1 hp with rfl | hp
  ·exact Nat.zero_le _
  ·rcases List.mem_cons.1 hp with rfl | hp
   ·show 1 ≤ 3; omega
   ·rcases List.mem_append.1 hp with hp | hp
    ·obtain ⟨x, hx, rfl⟩ := List.mem_map.1 hp
     show 2 ≤ 3; omega
    ·rcases List.mem_singleton.1 hp with rfl
     show 3 ≤ 3; omega
 constructor
 ·intro h
  exact (((readAs_iff _ _ h3).1 ((ref_ok _ 0 _).2.1 rfl h).2)).2
 ·intro h
  exact (ok_ref (fun s h1 h2 => pre_two h1 h2) _ 0 _ ((readAs_iff _ _ h3).2 ⟨rfl, h⟩)).2.1 rfl (rec_seq j)
end
section
open Go Go.Lib
theorem joinC_lines (ls : List (List UInt8)) : joinC 10 (ls ++ [[]]) = ls.flatMap fun s => s ++ [10] := by
 induction ls with
 | nil => rfl
 | cons a l ih =>
  rw [List.cons_append, joinC_cons (by simp), ih, List.flatMap_cons]
  simp
theorem line_T {a b c d e f : Int} (h : ∀ v ∈ [a, b, c, d, e, f], sm v) : lineK (0, [a, b, c, d, e, f]) = tongueW ++ rgT [(a, b), (c, d), (e, f)] := by
 have i := fun v hv => (it3_eq (h v hv)).symm
 show joinC 32 (tongueW :: wt 3 [a, b, c, d, e, f]) = _
 simp only [wt, joinC, rgT, i a (by simp), i b (by simp), i c (by simp), i d (by simp), i e (by simp), i f (by simp), List.append_assoc, List.cons_append, List.nil_append, List.append_nil]
theorem line_F {a b c d e f g k m : Int} (h : ∀ v ∈ [a, b, c, d, e, f, g, k, m], sm v) : lineK (1, [a, b, c, d, e, f, g, k, m]) = fileW ++ rgT [(a, b), (c, d), (e, f), (g, k)] ++ [32] ++ itoa m := by
 have i := fun v hv => (it3_eq (h v hv)).symm
 show joinC 32 (fileW :: wt 4 [a, b, c, d, e, f, g, k, m]) = _
 simp only [wt, joinC, rgT, i a (by simp), i b (by simp), i c (by simp), i d (by simp), i e (by simp), i f (by simp), i g (by simp), i k (by simp), i m (by simp), List.append_assoc, List.cons_append, List.nil_append, List.append_nil]
theorem line_S {a b : Int} (ha : sm a) (hb : sm b) : lineK (2, [a, b]) = shiftW ++ rgT [(a, b)] := by
 show joinC 32 (shiftW :: wt 1 [a, b]) = _
 simp only [wt, joinC, rgT, it3_eq ha, it3_eq hb, List.append_assoc, List.cons_append, List.nil_append, List.append_nil]
theorem line_P {a b : Int} (h : ∀ v ∈ [a, b], sm v) : lineK (3, [a, b]) = passW ++ [32] ++ itoa a ++ [32] ++ itoa b := by
 have i := fun v hv => (it3_eq (h v hv)).symm
 show joinC 32 (passW :: wt 0 [a, b]) = _
 simp only [wt, joinC, i a (by simp), i b (by simp), List.append_assoc, List.cons_append, List.nil_append, List.append_nil]
theorem write_lines {j : Jb} (h : j.sm) : writeT j = joinC 10 ((recOf j).map lineK ++ [[]]) := by
 have hs : ∀ sh : List (Int × Int), (∀ x ∈ sh, sm x.1 ∧ sm x.2) → (sh.map fun x => lineK (2, [x.1, x.2])).flatMap (fun s => s ++ [10]) = sh.flatMap (fun x => shiftW ++ rgT [x] ++ [10]) := by
  intro sh
  induction sh with
  | nil => intro _; rfl
  | cons x l ih =>
   intro hx
   have h1 := hx x Zz2
   rw [List.map_cons, List.flatMap_cons, List.flatMap_cons, ih fun y hy => hx y (Zz1 hy), line_S h1.1 h1.2]
 rw [joinC_lines]
 unfold recOf writeT
 rw [List.map_cons, List.map_cons, List.map_append, List.map_map, List.flatMap_cons, List.flatMap_cons, List.flatMap_append, line_T h.one, line_F h.two]
 have := hs j.sh h.sh
 rw [show (lineK ∘ fun x : Int × Int => ((2 : Nat), [x.1, x.2])) = fun x => lineK (2, [x.1, x.2]) from rfl, this]
 show _ = _ ++ (_ ++ (_ ++ ([lineK (3, [j.wi, j.me])].flatMap fun s => s ++ [10])))
 rw [List.flatMap_cons, List.flatMap_nil, line_P h.end', List.append_nil]
 simp only [List.append_assoc]
theorem line_free {p : Nat × List Int} (h : okRec p) : (10 : UInt8) ∉ lineK p := by
 obtain ⟨k, xs⟩ := p
 have key : ∀ l : List (List UInt8), (∀ s ∈ l, (10 : UInt8) ∉ s) → (10 : UInt8) ∉ joinC 32 l := by
  intro l
  induction l with
  | nil => intro _ h; cases h
  | cons a l ih =>
   intro hl
   cases l with
   | nil => exact hl a Zz2
   | cons b l =>
    rw [joinC_cons (by simp)]
    simp only [List.mem_append, List.mem_cons, not_or]
    exact ⟨hl a Zz2, by decide, ih fun s hs => hl s (Zz1 hs)⟩
 refine key _ fun s hs => ?_
 rcases List.mem_cons.1 hs with rfl | hs
 ·exact (word_free k).2
 ·exact wt_free (.inr rfl) _ _ h.2.2.2 s hs
theorem spl_write {j : Jb} (h : j.sm) : spl 10 (writeT j) = (recOf j).map lineK ++ [[]] := by
 rw [write_lines h]
 refine join_spl (by simp) fun s hs => ?_
 rcases List.mem_append.1 hs with hs | hs
 ·obtain ⟨p, hp, rfl⟩ := List.mem_map.1 hs
  exact line_free (rec_ok h p hp)
 ·rcases List.mem_singleton.1 hs with rfl
  exact List.not_mem_nil
theorem itoa_len {v : Int} (h : sm v) : (itoa v).length ≤ 4 := by
 rw [it3_eq h]
 unfold it3 dd3
 split <;> split <;> (try split) <;> simp
theorem write_len {j : Jb} (h : j.sm) (h4 : j.sh.length ≤ 4) : (writeT j).length ≤ 300 := by
 have hs : ∀ sh : List (Int × Int), (∀ x ∈ sh, sm x.1 ∧ sm x.2) → (sh.flatMap (fun x => shiftW ++ rgT [x] ++ [10])).length ≤ sh.length * 16 := by
  intro sh
  induction sh with
  | nil => intro _; exact Nat.le_refl _
  | cons x l ih =>
   intro hx
   have h1 := hx x Zz2
   have h2 := itoa_len h1.1
   have h3 := itoa_len h1.2
   have h5 := ih fun y hy => hx y (Zz1 hy)
   rw [List.flatMap_cons, List.length_append, List.length_cons, Nat.succ_mul]
   obtain ⟨n9, e9⟩ : ∃ n, n = (l.flatMap (fun x => shiftW ++ rgT [x] ++ [10])).length := ⟨_, rfl⟩
   rw [← e9] at h5 ⊢
   clear e9 ih
   simp only [shiftW, rgT, List.length_append, List.length_cons, List.length_nil]
   omega
 have h1 := fun v hv => itoa_len (h.one v hv)
 have h2 := fun v hv => itoa_len (h.two v hv)
 have h3 := hs j.sh h.sh
 have h5 := fun v hv => itoa_len (h.end' v hv)
 have a1 := h1 j.p0 (by simp)
 have a2 := h1 j.p1 (by simp)
 have a3 := h1 j.t0 (by simp)
 have a4 := h1 j.t1 (by simp)
 have a5 := h1 j.r0 (by simp)
 have a6 := h1 j.r1 (by simp)
 have b1 := h2 j.u0 (by simp)
 have b2 := h2 j.u1 (by simp)
 have b3 := h2 j.d0 (by simp)
 have b4 := h2 j.d1 (by simp)
 have b5 := h2 j.a0 (by simp)
 have b6 := h2 j.a1 (by simp)
 have b7 := h2 j.b0 (by simp)
 have b8 := h2 j.b1 (by simp)
 have b9 := h2 j.le (by simp)
 have c1 := h5 j.wi (by simp)
 have c2 := h5 j.me (by simp)
 unfold writeT
 rw [List.length_append, List.length_append, List.length_append]
 obtain ⟨n9, e9⟩ : ∃ n, n = (j.sh.flatMap (fun x => shiftW ++ rgT [x] ++ [10])).length := ⟨_, rfl⟩
 rw [← e9] at h3 ⊢
 clear e9 hs h1 h2 h5
 simp only [tongueW, fileW, passW, rgT, List.length_append, List.length_cons, List.length_nil]
 omega
theorem write_read {j : Jb} (h : checkJ j = 0) : readT (writeT j) = (j, 0, 0) := by
 have g := good_of h
 have hs := g.sm
 rw [read_eq]
 unfold readR
 rw [if_neg (by have := write_len hs g.few; omega), spl_write hs, List.dropLast_concat, (rec_lines j).2 (rec_ok hs)]
 show (if _ then _ else _) = _
 rw [if_neg (by simp), fold_rec, if_neg (by simp [h])]
theorem okRec_two {k : Nat} {xs : List Int} (h : okRec (k, xs)) (hk : k = 2 ∨ k = 3) : ∃ a b, xs = [a, b] ∧ sm a ∧ sm b := by
 obtain ⟨-, -, h3, h4⟩ := h
 have hl : xs.length = 2 := by rcases hk with rfl | rfl <;> exact h3
 match xs, hl with
 | [a, b], _ => exact ⟨a, b, rfl, h4 a Zz2, h4 b (Zz1 Zz2)⟩
theorem seq_end : ∀ (l : List (Nat × List Int)), seqOk 2 l → (∀ p ∈ l, okRec p) → ∃ (sh : List (Int × Int)) (a b : Int), l = sh.map (fun x => (2, [x.1, x.2])) ++ [(3, [a, b])]
 | [], h, _ => absurd h (by unfold seqOk; decide)
 | (k, xs) :: r, h, hl => by
  have hx := hl _ Zz2
  rcases h with ⟨h1, h2⟩ | ⟨h1, h2⟩
  ·have h1 : k = 2 := h1
   subst h1
   obtain ⟨a, b, rfl, -, -⟩ := okRec_two hx (.inl rfl)
   obtain ⟨sh, c, d, rfl⟩ := seq_end r h2 fun p hp => hl p (Zz1 hp)
   exact ⟨(a, b) :: sh, c, d, rfl⟩
  ·have h1 : k = 3 := h1
   subst h1
   obtain ⟨a, b, rfl, -, -⟩ := okRec_two hx (.inr rfl)
   cases r with
   | nil => exact ⟨[], a, b, rfl⟩
   | cons y r => exact absurd h2 (by unfold seqOk; exact fun h => h)
theorem seq_rec {l : List (Nat × List Int)} (h : seqOk 0 l) (hl : ∀ p ∈ l, okRec p) : l = recOf (foldK l zeroJ) := by
 match l, h, hl with
 | (k0, x0) :: [], h, _ => exact absurd h.2 (by unfold seqOk; decide)
 | (k0, x0) :: (k1, x1) :: r, h, hl =>
  obtain ⟨h0, h1, h2⟩ := h
  have h0 : k0 = 0 := h0
  have h1 : k1 = 1 := h1
  subst h0 h1
  obtain ⟨sh, a, b, rfl⟩ := seq_end r h2 fun p hp => hl p (Zz1 (Zz1 hp))
  have l0 : x0.length = 6 := (hl (0, x0) Zz2).2.2.1
  have l1 : x1.length = 9 := (hl (1, x1) (Zz1 Zz2)).2.2.1
  match x0, l0 with
  | [p0, p1, t0, t1, r0, r1], _ =>
   match x1, l1 with
   | [u0, u1, d0, d1, a0, a1, b0, b1, le], _ =>
    have e : foldK ((0, [p0, p1, t0, t1, r0, r1]) :: (1, [u0, u1, d0, d1, a0, a1, b0, b1, le]) :: (sh.map (fun x => (2, [x.1, x.2])) ++ [(3, [a, b])])) zeroJ = { p0 := p0, p1 := p1, t0 := t0, t1 := t1, r0 := r0, r1 := r1, u0 := u0, u1 := u1, d0 := d0, d1 := d1, a0 := a0, a1 := a1, b0 := b0, b1 := b1, le := le, sh := sh, wi := a, me := b } := by
     show foldK (sh.map _ ++ [(3, [a, b])]) _ = _
     rw [foldK_shs]
     rfl
    rw [e]
    rfl
theorem seq_le : ∀ (l : List (Nat × List Int)) (a : Nat), seqOk a l → ∀ p ∈ l, p.1 ≤ 3
 | [], _, _, p, hp => by cases hp
 | x :: r, 0, h, p, hp => by
  rcases List.mem_cons.1 hp with rfl | hp
  ·have := h.1; omega
  ·exact seq_le r 1 h.2 p hp
 | x :: r, 1, h, p, hp => by
  rcases List.mem_cons.1 hp with rfl | hp
  ·have := h.1; omega
  ·exact seq_le r 2 h.2 p hp
 | x :: r, 2, h, p, hp => by
  rcases h with h | h
  ·rcases List.mem_cons.1 hp with rfl | hp
   ·have := h.1; omega
   ·exact seq_le r 2 h.2 p hp
  ·rcases List.mem_cons.1 hp with rfl | hp
   ·have := h.1; omega
   ·exact seq_le r 4 h.2 p hp
 | x :: r, n + 3, h, p, hp => (h : False).elim
theorem read_write {t : List UInt8} {y : Jb} {row : Int} (h : readT t = (y, row, 0)) : checkJ y = 0 ∧ writeT y = t ∧ y.sm := by
 rw [read_eq] at h
 unfold readR at h
 split at h
 ·injection h with _ h; injection h with _ h; cases h
 ·cases hr : refL KT KF KS KP false 0 (spl 10 t).dropLast with
  | bad r => rw [hr] at h; injection h with _ h; injection h with _ h; cases h
  | ok d l =>
   rw [hr] at h
   unfold endR at h
   dsimp only at h
   split at h
   ·injection h with _ h; injection h with _ h; cases h
   ·rename_i hd
    split at h
    ·rename_i hc
     injection h with _ h; injection h with _ h; exact absurd h hc
    ·rename_i hc
     injection h with h _
     subst h
     simp only [not_or, Bool.not_eq_false, ne_eq, Decidable.not_not] at hd hc
     obtain ⟨rfl, hlast⟩ := hd
     obtain ⟨h1, h2⟩ := (ref_ok _ 0 _).2.1 rfl hr
     have h3 : ∀ p ∈ l, p.1 ≤ 3 := seq_le l 0 h1
     obtain ⟨h4, h5⟩ := (readAs_iff _ _ h3).1 h2
     have h6 := seq_rec h1 h5
     have g := good_of hc
     refine ⟨hc, ?_, g.sm⟩
     rw [write_lines g.sm, ← h6, ← h4]
     have h7 : spl 10 t = (spl 10 t).dropLast ++ [[]] := by
      rw [List.getLast?_eq_some_iff] at hlast
      obtain ⟨r, hr⟩ := hlast
      rw [hr, List.dropLast_concat]
     rw [← h7, spl_join]
end
theorem rgT_snoc (l : List (Int × Int)) (x0 x1 : Int) : rgT (l ++ [(x0, x1)]) = rgT l ++ (([32] ++ Lib.itoa x0 ++ [58]) ++ Lib.itoa x1) := by
 induction l with
 | nil => simp [rgT]
 | cons p r ih => rw [List.cons_append, rgT, rgT, ih]; simp only [List.append_assoc]
theorem rgT_len : ∀ (l : List (Int × Int)), (∀ p ∈ l, sm p.1 ∧ sm p.2) → (rgT l).length ≤ l.length * 10
 | [], _ => Nat.le_refl _
 | p :: r, h => by
  have h1 := itoa_len (h p Zz2).1
  have h2 := itoa_len (h p Zz2).2
  have h3 := rgT_len r fun q hq => h q (Zz1 hq)
  unfold rgT
  simp only [List.length_append, List.length_cons]
  omega
theorem shT_len : ∀ (l : List (Int × Int)), (∀ p ∈ l, sm p.1 ∧ sm p.2) → (l.flatMap fun x => shiftW ++ rgT [x] ++ [10]).length ≤ l.length * 16
 | [], _ => Nat.le_refl _
 | p :: r, h => by
  have h1 := rgT_len [p] (fun q hq => by rcases List.mem_singleton.1 hq with rfl; exact h q Zz2)
  have h3 := shT_len r fun q hq => h q (Zz1 hq)
  rw [List.flatMap_cons, List.length_append]
  simp only [List.length_append, List.length_cons, List.length_nil, shiftW] at h1 h3 ⊢
  omega
theorem take_sn {α : Type} {l : List α} {k : Nat} {x : α} (h : l[k]? = some x) : l.take (k + 1) = l.take k ++ [x] := by rw [List.take_add_one, h]; rfl
def wrT (j : Jb) : List UInt8 := if checkJ j = 0 then writeT j else []
theorem rangesT_any (A : Option Addr) (n c : Nat) (l : List (Int × Int)) (w : World) (hr : Rd w w.heap.size 2 A n (rc l)) (hn : n ≤ 1000) (hl : ∀ p ∈ l, sm p.1 ∧ sm p.2) (hT : StrW w)  :
   Calls Tryz.prog 47 #[.slice A n c] w fun e w' => e = .returned (sv (rgT l)) ∧ Below w.heap.size w w' := by
 have hll := hr.len2
 obtain ⟨bJ, oJ, SJ⟩ := Sp.old hr
 refine Zpx noEx Tryz.func47 rfl 25 rfl [.slice A n c] rfl rfl (Mem.init w _) ?_
 intro ac wc T M
 refine Zsr ?_
 refine lq T (Zra rfl evc) ?_; clear T ac; intro ac T
 replace T := T.pick [1] rfl
 refine Zln ?_
 refine Zsr ?_
 refine lq T (Zra rfl evc) ?_; clear T ac; intro ac T
 refine Zln ?_
 refine wp_seq ?_
 refine Zsr ?_
 refine Zg3 T (Zq (Zrm rfl (T.e 1 rfl))) rfl (Zl Tryz.underlying28 0 rfl rfl) rfl (fun _ T => Zq (Zrm rfl evc)) rfl ?_; clear T ac; intro ac T
 replace T := T.pick [0, 1, 2, 3] rfl
 refine Zln ?_
 refine wp_block ?_
 refine wp_loop_n (fun mz ac wc => ∃ (k : Nat), mz = n - k ∧ (k ≤ n) ∧ ((rgT (l.take k)).length ≤ k * 10) ∧ Tm ac 25 [(3, sv (rgT (l.take k))), (6, .slice A n c), (7, .int .i64 ((n : Nat) : Int)), (8, .int .i64 (k : Int))] ∧ Mem w noEx wc []) ?_ ?_
 ·exact ⟨_, 0, rfl, (Nat.zero_le _), (Nat.le_refl _), T.pick [3, 2, 1, 0] rfl, M.mask [] rfl⟩
 clear T M
 rintro mz ac wc ⟨k, hmm1, hk, hs, T, M⟩
 refine Zsr ?_
 refine lq T (rn_lss rfl (T.e 3 rfl) (T.e 2 rfl)) ?_; clear T ac; intro ac T
 refine Zln ?_
 refine wp_seq ?_
 refine wp_if (T.e 0 rfl) ?_ ?_
 ·intro h1
  obtain ⟨x0, x1, hkx, -⟩ := rc_next (l := l) (k := k) (by omega)
  have hx := hl _ (List.mem_of_getElem? hkx)
  dsimp only at hx
  obtain ⟨⟨hx1, hx2⟩, hx3, hx4⟩ := hx
  refine Zsk ?_
  refine wp_seq ?_
  refine wp_block ?_
  refine Zsr ?_
  refine Zg2 (v2 := (.agg #[.int .i64 x0, .int .i64 x1])) T (Zq (Zri (size := 2) k rfl (T.e 2 rfl) (T.e 4 rfl) ⟨_, Tryz.underlying28, by kernel_rfl⟩ rfl (by omega) (SJ.at0 (by omega)))) rfl (fun _ T => Zq (rn_rowat (Sp.rcR SJ M (Zz9 _) hkx) rfl (T.e 0 rfl) rfl)) rfl ?_; clear T ac; intro ac T
  refine Zl2 ?_
  refine Zoa M T rfl rfl rfl rfl ?_; clear M T; intro g1 wc ac M T
  refine Zl2 ?_
  refine Zos M T rfl rfl (T.e 0 rfl) (T.e 1 rfl) rfl .head rfl (by simp) rfl (by kernel_rfl) ?_; clear M T; intro wc ac M T
  replace T := T.pick [0, 4, 5, 6, 7] rfl
  refine Zln ?_
  refine Zgs M (M.mask [true] rfl) 12 (by kernel_rfl) rfl (by kernel_rfl) ?_
  clear M; intro wc M
  refine gq T 0 1 rfl (fun _ _ _ _ _ => (Zrm rfl (T.e 1 rfl))) ?_; clear T ac; intro ac T
  refine gq (v := (.pointer (some ⟨g1, 0, none⟩))) T 1 3 rfl (fun _ _ _ _ _ => (Zrf (off := 0) rfl (T.e 1 rfl) (fun _ _ _ => by kernel_rfl))) ?_; clear T ac; intro ac T
  refine gq T 2 7 rfl (fun B w' hD hl hS => (Zro (Mem.nth (show Mem w noEx w' _ from hS) 0 rfl) rfl (T.e 0 rfl) rfl)) ?_; clear T ac; intro ac T
  refine gq (v := (.pointer (some ⟨g1, 1, none⟩))) T 6 71 rfl (fun _ _ _ _ _ => (Zrf (off := 1) rfl (T.e 3 rfl) (fun _ _ _ => by kernel_rfl))) ?_; clear T ac; intro ac T
  refine gq T 7 199 rfl (fun B w' hD hl hS => (Zro (Mem.nth (show Mem w noEx w' _ from hS) 0 rfl) rfl (T.e 0 rfl) rfl)) ?_; clear T ac; intro ac T
  refine gw 3 207 ?_; intro K hK
  refine Zoc (first := []) (cap := []) T rfl rfl rfl rfl evf (.cons (T.e 2 rfl) .nil) Tryz.func48 rfl rfl ?_
  refine Calls.mono (Itoa_any x0 _ (by (try dsimp only); omega) (hT.mem0 M)) ?_
  clear T; rintro e wc ⟨rfl, hb⟩ ac T
  replace M := M.call hb; clear hb
  have hiu1 := itoa_len (v := x0) ⟨by (try dsimp only); omega, by (try dsimp only); omega⟩
  refine Zso hK _ _ (M.mask [true] rfl) ?_; clear hK K
  refine gq T 4 223 rfl (fun _ _ _ _ _ => (rn_sadd rfl evc (T.e 0 rfl) (by (try simp only [List.length_append, List.length_cons, List.length_nil]); omega))) ?_; clear T ac; intro ac T
  refine gq T 5 255 rfl (fun _ _ _ _ _ => (rn_sadd rfl (T.e 0 rfl) evc (by (try simp only [List.length_append, List.length_cons, List.length_nil]); omega))) ?_; clear T ac; intro ac T
  refine gw 8 511 ?_; intro K hK
  refine Zoc (first := []) (cap := []) T rfl rfl rfl rfl evf (.cons (T.e 3 rfl) .nil) Tryz.func48 rfl rfl ?_
  refine Calls.mono (Itoa_any x1 _ (by (try dsimp only); omega) (hT.mem0 M)) ?_
  clear T; rintro e wc ⟨rfl, hb⟩ ac T
  replace M := M.call hb; clear hb
  have hiu2 := itoa_len (v := x1) ⟨by (try dsimp only); omega, by (try dsimp only); omega⟩
  refine Zso hK _ _ (M.mask [true] rfl) ?_; clear hK K
  refine gq T 9 1023 rfl (fun _ _ _ _ _ => (rn_sadd rfl (T.e 1 rfl) (T.e 0 rfl) (by (try simp only [List.length_append, List.length_cons, List.length_nil]); omega))) ?_; clear T ac; intro ac T
  refine gq T 10 2047 rfl (fun _ _ _ _ _ => (rn_sadd rfl (T.e 9 rfl) (T.e 0 rfl) (by (try simp only [List.length_append, List.length_cons, List.length_nil]); omega))) ?_; clear T ac; intro ac T
  refine g_q (v := (sv ((rgT (l.take k)) ++ (((([32]) ++ (Lib.itoa x0)) ++ ([58])) ++ (Lib.itoa x1))))) (T := T.pick [0, 1, 2, 3, 4, 5, 6, 7, 8, 9, 10, 11, 13, 14, 15] rfl) (i := 11) rfl (by kernel_rfl) (by kernel_rfl : (Zpb 12 2047).setIfInBounds 11 true = Zpb 12 4095) si_U (fun _ _ _ h => h) rfl rfl rfl rfl (fun _ _ _ _ _ => (Zra rfl (T.e 0 rfl))) ?_; clear T ac; intro ac T
  refine Zgd (by kernel_rfl) ?_
  replace T := T.pick [0, 13, 14, 15] rfl
  replace M := M.mask [false] rfl
  refine Znb ?_
  refine nm_then ?_
  refine wp_region_lit ?_
  refine lq T (rn_add rfl (T.e 3 rfl) evc (by omega)) ?_; clear T ac; intro ac T
  refine l_q (v := (.int .i64 ((k : Int) + 1))) (T.pick [0, 1, 2, 3] rfl) rfl rfl rfl rfl (Zrm rfl (T.e 0 rfl)) ?_; clear T ac; intro ac T
  replace T := T.pick [0, 2, 3, 4] rfl
  refine Zln ?_
  have e9 : rgT (l.take k) ++ (([32] ++ Lib.itoa x0 ++ [58]) ++ Lib.itoa x1) = rgT (l.take (k + 1)) := by rw [take_sn hkx, rgT_snoc]
  rw [e9] at T
  have hs2 := congrArg List.length e9
  simp only [List.length_append, List.length_cons, List.length_nil] at hs2
  exact ⟨_, by omega, k + 1, rfl, (by omega), (by omega), T.pick [1, 2, 3, 0] rfl, M.mask [] rfl⟩
 intro h1
 refine wp_exit ?_
 refine Zet ?_
 refine Zet ?_
 refine ex_hit ?_
 refine nm_then ?_
 refine Zsr ?_
 refine Zg2 T (Zq (Zrm rfl (T.e 1 rfl))) rfl (Za 0 rfl rfl) rfl ?_; clear T ac; intro ac T
 replace T := T.pick [0] rfl
 refine Zln ?_
 refine wp_ret ?_
 refine rt_1 T rfl (T.e 0 rfl) ?_
 have e9 : l.take k = l := List.take_of_length_le (by omega)
 rw [e9]
 exact ⟨rfl, M.below⟩
theorem write_any (j : Jb) (A : Option Addr) (c : Nat) (w : World) (hr : Rd w w.heap.size 2 A j.sh.length (rc j.sh)) (hn : j.sh.length ≤ 1000000) (hT : StrW w)  :
   Calls Tryz.prog 12 #[jobV j A c] w fun e w' => e = .returned (.tuple #[sv (wrT j), .int .i64 (checkJ j)]) ∧ Below w.heap.size w w' := by
 obtain ⟨bJ, oJ, SJ⟩ := Sp.old hr
 refine Zpx noEx Tryz.func12 rfl 77 rfl [.agg #[.int .i64 j.p0, .int .i64 j.p1, .int .i64 j.t0, .int .i64 j.t1, .int .i64 j.r0, .int .i64 j.r1, .int .i64 j.u0, .int .i64 j.u1, .int .i64 j.d0, .int .i64 j.d1, .int .i64 j.a0, .int .i64 j.a1, .int .i64 j.b0, .int .i64 j.b1, .int .i64 j.le, .slice A j.sh.length c, .int .i64 j.wi, .int .i64 j.me]] rfl rfl (Mem.init w _) ?_
 intro ac wc T M
 refine Zsr ?_
 refine Zl2 ?_
 refine Zob M T rfl rfl rfl rfl (T.e 0 rfl) rfl ?_; clear M T; intro g1 wc ac M T
 refine Zg2 T (Zq (Zra rfl evc)) rfl (Zc rfl) rfl ?_; clear T ac; intro ac T
 replace T := T.pick [2] rfl
 refine Zln ?_
 refine wp_seq ?_
 refine Zsr ?_
 refine lq T (Zrr (Mem.nth M 0 rfl) rfl (T.e 0 rfl) rfl) ?_; clear T ac; intro ac T
 refine Zl2 ?_
 refine Zoc (first := []) (cap := []) T rfl rfl rfl rfl evf (.cons (T.e 0 rfl) .nil) Tryz.func46 rfl rfl ?_
 refine Calls.mono (check_any j _ _ _ (SJ.rd M (Zz9 _)) (by omega)) ?_
 clear T; rintro e wc ⟨rfl, hb⟩ ac T
 replace M := M.call hb; clear hb
 refine lq T (Zra rfl (T.e 0 rfl)) ?_; clear T ac; intro ac T
 replace T := T.pick [0, 3] rfl
 refine Zln ?_
 refine Zsr ?_
 refine Zg2 T (Zq (Zrm rfl (T.e 0 rfl))) rfl (fun _ T => Zq (rn_neq rfl (T.e 0 rfl) evc)) rfl ?_; clear T ac; intro ac T
 replace T := T.pick [0, 2, 3] rfl
 refine Zln ?_
 refine wp_ifn (T.e 0 rfl) ?_ ?_
 ·intro h1
  refine Zsr ?_
  refine Zg3 T (Zq (Zrm rfl (T.e 1 rfl))) rfl (Zc rfl) rfl (Za 1 rfl rfl) rfl ?_; clear T ac; intro ac T
  refine wpList_nil ?_
  replace T := T.pick [0, 1] rfl
  replace M := M.mask [false] rfl
  refine Znr ?_
  refine Zrt ?_
  refine rt_2 T rfl (T.e 1 rfl) (T.e 0 rfl) ?_
  have e9 : wrT j = [] := by unfold wrT; rw [if_neg (by assumption)]
  rw [e9]
  exact ⟨rfl, M.below⟩
 intro h1
 have gj := good_of (j := j) (by simpa using h1)
 have gq1 := gj.p
 have gq2 := gj.t
 have gq3 := gj.r
 have gq4 := gj.u
 have gq5 := gj.d
 have gq6 := gj.a
 have gq7 := gj.b
 have gq8 := gj.le
 have gq9 := gj.wi
 have gq10 := gj.me
 have gq11 := gj.few
 have hj0 : checkJ j = 0 := by simpa using h1
 refine Zsk ?_
 refine Zsr ?_
 refine Zg8 (v1 := (.pointer (some ⟨g1, 0, none⟩))) (v2 := (.pointer (some ⟨g1, 0, none⟩))) (v4 := (.pointer (some ⟨g1, 0, none⟩))) (v5 := (.pointer (some ⟨g1, 2, none⟩))) (v7 := (.pointer (some ⟨g1, 0, none⟩))) (v8 := (.pointer (some ⟨g1, 4, none⟩))) T (Zq (Zrf (off := 0) rfl (T.e 2 rfl) (fun _ _ _ => by kernel_rfl))) rfl (Zf 0 0 rfl rfl) rfl (Zr M 0 0 rfl rfl rfl rfl) rfl (Zf 0 5 rfl rfl) rfl (Zf 2 0 rfl rfl) rfl (Zr M 0 0 rfl rfl rfl rfl) rfl (Zf 0 8 rfl rfl) rfl (Zf 4 0 rfl rfl) rfl ?_; clear T ac; intro ac T
 refine lq T (Zrr (Mem.nth M 0 rfl) rfl (T.e 0 rfl) rfl) ?_; clear T ac; intro ac T
 refine Zl2 ?_
 refine ow_bs (e := 23) [.int .i64 j.p0, .int .i64 j.p1, .int .i64 j.t0, .int .i64 j.t1, .int .i64 j.r0, .int .i64 j.r1] M T rfl rfl rfl rfl (.cons (T.e 6 rfl) (.cons (T.e 3 rfl) (.cons (T.e 0 rfl) .nil))) (fun _ => by kernel_rfl) ?_; clear M T; intro g2 wc ac M T
 refine Zl2 ?_
 refine Zoc (first := []) (cap := []) T rfl rfl rfl rfl evf (.cons (T.e 0 rfl) .nil) Tryz.func47 rfl rfl ?_
 refine Calls.mono (rangesT_any _ _ _ ([(j.p0, j.p1), (j.t0, j.t1), (j.r0, j.r1)]) _ (M.rdOwn (Zne (i := 0) rfl) rfl rfl) (by omega) (by intro p hp; simp only [List.mem_cons, List.not_mem_nil, or_false] at hp; rcases hp with rfl | rfl | rfl <;> exact ⟨⟨by dsimp only; omega, by dsimp only; omega⟩, by dsimp only; omega, by dsimp only; omega⟩) (hT.mem0 M)) ?_
 clear T; rintro e wc ⟨rfl, hb⟩ ac T
 replace M := M.call hb; clear hb
 have hru2 := rgT_len ([(j.p0, j.p1), (j.t0, j.t1), (j.r0, j.r1)]) (by intro p hp; simp only [List.mem_cons, List.not_mem_nil, or_false] at hp; rcases hp with rfl | rfl | rfl <;> exact ⟨⟨by dsimp only; omega, by dsimp only; omega⟩, by dsimp only; omega, by dsimp only; omega⟩)
 simp only [List.length_cons, List.length_nil] at hru2
 refine Zg3 T (Zq (rn_sadd rfl evc (T.e 0 rfl) (by (try simp only [List.length_append, List.length_cons, List.length_nil]); omega))) rfl (fun _ T => Zq (rn_sadd rfl (T.e 0 rfl) evc (by (try simp only [List.length_append, List.length_cons, List.length_nil]); omega))) rfl (Za 0 rfl rfl) rfl ?_; clear T ac; intro ac T
 refine wpList_nil ?_
 replace T := T.pick [0, 16] rfl
 replace M := M.mask [false, true] rfl
 refine Zns ?_
 refine Zgs M (M.mask [true] rfl) 25 (by kernel_rfl) rfl (by kernel_rfl) ?_
 clear M; intro wc M
 refine gq T 0 1 rfl (fun _ _ _ _ _ => (Zrm rfl (T.e 0 rfl))) ?_; clear T ac; intro ac T
 refine gq (v := (.pointer (some ⟨g1, 6, none⟩))) T 1 3 rfl (fun _ _ _ _ _ => (Zrf (off := 6) rfl (T.e 2 rfl) (fun _ _ _ => by kernel_rfl))) ?_; clear T ac; intro ac T
 refine gq (v := (.pointer (some ⟨g1, 6, none⟩))) T 2 7 rfl (fun _ _ _ _ _ => (Zrf (off := 0) rfl (T.e 0 rfl) (fun _ _ _ => by kernel_rfl))) ?_; clear T ac; intro ac T
 refine gq T 3 15 rfl (fun B w' hD hl hS => (Zrr (Mem.nth (show Mem w noEx w' _ from hS) 0 rfl) rfl (T.e 0 rfl) rfl)) ?_; clear T ac; intro ac T
 refine gq (v := (.pointer (some ⟨g1, 6, none⟩))) T 4 31 rfl (fun _ _ _ _ _ => (Zrf (off := 6) rfl (T.e 5 rfl) (fun _ _ _ => by kernel_rfl))) ?_; clear T ac; intro ac T
 refine gq (v := (.pointer (some ⟨g1, 8, none⟩))) T 5 63 rfl (fun _ _ _ _ _ => (Zrf (off := 2) rfl (T.e 0 rfl) (fun _ _ _ => by kernel_rfl))) ?_; clear T ac; intro ac T
 refine gq T 6 127 rfl (fun B w' hD hl hS => (Zrr (Mem.nth (show Mem w noEx w' _ from hS) 0 rfl) rfl (T.e 0 rfl) rfl)) ?_; clear T ac; intro ac T
 refine gq (v := (.pointer (some ⟨g1, 6, none⟩))) T 7 255 rfl (fun _ _ _ _ _ => (Zrf (off := 6) rfl (T.e 8 rfl) (fun _ _ _ => by kernel_rfl))) ?_; clear T ac; intro ac T
 refine gq (v := (.pointer (some ⟨g1, 10, none⟩))) T 8 511 rfl (fun _ _ _ _ _ => (Zrf (off := 4) rfl (T.e 0 rfl) (fun _ _ _ => by kernel_rfl))) ?_; clear T ac; intro ac T
 refine gq T 9 1023 rfl (fun B w' hD hl hS => (Zrr (Mem.nth (show Mem w noEx w' _ from hS) 0 rfl) rfl (T.e 0 rfl) rfl)) ?_; clear T ac; intro ac T
 refine gq (v := (.pointer (some ⟨g1, 6, none⟩))) T 10 2047 rfl (fun _ _ _ _ _ => (Zrf (off := 6) rfl (T.e 11 rfl) (fun _ _ _ => by kernel_rfl))) ?_; clear T ac; intro ac T
 refine gq (v := (.pointer (some ⟨g1, 12, none⟩))) T 11 4095 rfl (fun _ _ _ _ _ => (Zrf (off := 6) rfl (T.e 0 rfl) (fun _ _ _ => by kernel_rfl))) ?_; clear T ac; intro ac T
 refine gq T 12 8191 rfl (fun B w' hD hl hS => (Zrr (Mem.nth (show Mem w noEx w' _ from hS) 0 rfl) rfl (T.e 0 rfl) rfl)) ?_; clear T ac; intro ac T
 refine gq (v := (.pointer (some ⟨g1, 6, none⟩))) T 17 139263 rfl (fun _ _ _ _ _ => (Zrf (off := 6) rfl (T.e 14 rfl) (fun _ _ _ => by kernel_rfl))) ?_; clear T ac; intro ac T
 refine gq (v := (.pointer (some ⟨g1, 14, none⟩))) T 18 401407 rfl (fun _ _ _ _ _ => (Zrf (off := 8) rfl (T.e 0 rfl) (fun _ _ _ => by kernel_rfl))) ?_; clear T ac; intro ac T
 refine gq T 19 925695 rfl (fun B w' hD hl hS => (Zro (Mem.nth (show Mem w noEx w' _ from hS) 0 rfl) rfl (T.e 0 rfl) rfl)) ?_; clear T ac; intro ac T
 refine gw 13 933887 ?_; intro K hK
 refine ow_bs (e := 23) [.int .i64 j.u0, .int .i64 j.u1, .int .i64 j.d0, .int .i64 j.d1, .int .i64 j.a0, .int .i64 j.a1, .int .i64 j.b0, .int .i64 j.b1] M T rfl rfl rfl rfl (.cons (T.e 12 rfl) (.cons (T.e 9 rfl) (.cons (T.e 6 rfl) (.cons (T.e 3 rfl) .nil)))) (fun _ => by kernel_rfl) ?_; clear M T; intro g3 wc ac M T
 refine Zso hK _ _ (M.mask [false, true] rfl) ?_; clear hK K
 refine gw 14 950271 ?_; intro K hK
 refine Zoc (first := []) (cap := []) T rfl rfl rfl rfl evf (.cons (T.e 0 rfl) .nil) Tryz.func47 rfl rfl ?_
 refine Calls.mono (rangesT_any _ _ _ ([(j.u0, j.u1), (j.d0, j.d1), (j.a0, j.a1), (j.b0, j.b1)]) _ (M.rdOwn (Zne (i := 0) rfl) rfl rfl) (by omega) (by intro p hp; simp only [List.mem_cons, List.not_mem_nil, or_false] at hp; rcases hp with rfl | rfl | rfl | rfl <;> exact ⟨⟨by dsimp only; omega, by dsimp only; omega⟩, by dsimp only; omega, by dsimp only; omega⟩) (hT.mem0 M)) ?_
 clear T; rintro e wc ⟨rfl, hb⟩ ac T
 replace M := M.call hb; clear hb
 have hru3 := rgT_len ([(j.u0, j.u1), (j.d0, j.d1), (j.a0, j.a1), (j.b0, j.b1)]) (by intro p hp; simp only [List.mem_cons, List.not_mem_nil, or_false] at hp; rcases hp with rfl | rfl | rfl | rfl <;> exact ⟨⟨by dsimp only; omega, by dsimp only; omega⟩, by dsimp only; omega, by dsimp only; omega⟩)
 simp only [List.length_cons, List.length_nil] at hru3
 refine Zso hK _ _ (M.mask [false, true] rfl) ?_; clear hK K
 refine gq T 15 983039 rfl (fun _ _ _ _ _ => (rn_sadd rfl evc (T.e 0 rfl) (by (try simp only [List.length_append, List.length_cons, List.length_nil]); omega))) ?_; clear T ac; intro ac T
 refine gq T 16 1048575 rfl (fun _ _ _ _ _ => (rn_sadd rfl (T.e 0 rfl) evc (by (try simp only [List.length_append, List.length_cons, List.length_nil]); omega))) ?_; clear T ac; intro ac T
 refine gw 20 2097151 ?_; intro K hK
 refine Zoc (first := []) (cap := []) T rfl rfl rfl rfl evf (.cons (T.e 4 rfl) .nil) Tryz.func48 rfl rfl ?_
 refine Calls.mono (Itoa_any j.le _ (by (try dsimp only); omega) (hT.mem0 M)) ?_
 clear T; rintro e wc ⟨rfl, hb⟩ ac T
 replace M := M.call hb; clear hb
 have hiu4 := itoa_len (v := j.le) ⟨by (try dsimp only); omega, by (try dsimp only); omega⟩
 refine Zso hK _ _ (M.mask [false, true] rfl) ?_; clear hK K
 refine gq T 21 4194303 rfl (fun _ _ _ _ _ => (rn_sadd rfl (T.e 1 rfl) (T.e 0 rfl) (by (try simp only [List.length_append, List.length_cons, List.length_nil]); omega))) ?_; clear T ac; intro ac T
 refine gq T 22 8388607 rfl (fun _ _ _ _ _ => (rn_sadd rfl (T.e 0 rfl) evc (by (try simp only [List.length_append, List.length_cons, List.length_nil]); omega))) ?_; clear T ac; intro ac T
 refine gq T 23 16777215 rfl (fun _ _ _ _ _ => (rn_sadd rfl (T.e 22 rfl) (T.e 0 rfl) (by (try simp only [List.length_append, List.length_cons, List.length_nil]); omega))) ?_; clear T ac; intro ac T
 refine g_q (v := (sv (((([116, 111, 110, 103, 117, 101]) ++ (rgT ([(j.p0, j.p1), (j.t0, j.t1), (j.r0, j.r1)]))) ++ ([10])) ++ ((((([102, 105, 108, 101]) ++ (rgT ([(j.u0, j.u1), (j.d0, j.d1), (j.a0, j.a1), (j.b0, j.b1)]))) ++ ([32])) ++ (Lib.itoa j.le)) ++ ([10]))))) (T := T.pick [0, 1, 2, 3, 4, 5, 6, 7, 8, 9, 10, 11, 12, 13, 14, 15, 16, 17, 18, 19, 20, 21, 22, 23, 25] rfl) (i := 24) rfl (by kernel_rfl) (by kernel_rfl : (Zpb 25 16777215).setIfInBounds 24 true = Zpb 25 33554431) si_U (fun _ _ _ h => h) rfl rfl rfl rfl (fun _ _ _ _ _ => (Zra rfl (T.e 0 rfl))) ?_; clear T ac; intro ac T
 refine Zgd (by kernel_rfl) ?_
 replace T := T.pick [0, 25] rfl
 replace M := M.mask [false, true] rfl
 refine Zns ?_
 refine Zsr ?_
 refine Zg4 (v1 := (.pointer (some ⟨g1, 15, none⟩))) T (Zq (Zrf (off := 15) rfl (T.e 1 rfl) (fun _ _ _ => by kernel_rfl))) rfl (Zo M 0 0 rfl rfl rfl rfl) rfl (Zl Tryz.underlying28 0 rfl rfl) rfl (fun _ T => Zq (Zrm rfl evc)) rfl ?_; clear T ac; intro ac T
 replace T := T.pick [0, 1, 2, 4, 5] rfl
 refine Zln ?_
 refine wp_block ?_
 obtain ⟨pre9, hpre⟩ : ∃ q : List UInt8, q = (((([116, 111, 110, 103, 117, 101]) ++ (rgT ([(j.p0, j.p1), (j.t0, j.t1), (j.r0, j.r1)]))) ++ ([10])) ++ ((((([102, 105, 108, 101]) ++ (rgT ([(j.u0, j.u1), (j.d0, j.d1), (j.a0, j.a1), (j.b0, j.b1)]))) ++ ([32])) ++ (Lib.itoa j.le)) ++ ([10]))) := ⟨_, rfl⟩
 rw [← hpre] at T
 have hp9 := congrArg List.length hpre
 simp only [List.length_append, List.length_cons, List.length_nil] at hp9
 refine wp_loop_n (fun mz ac wc => ∃ (k : Nat), mz = j.sh.length - k ∧ (k ≤ j.sh.length) ∧ (((j.sh.take k).flatMap (fun x => shiftW ++ rgT [x] ++ [10])).length ≤ k * 16) ∧ Tm ac 77 [(1, .pointer (some ⟨g1, 0, none⟩)), (5, sv (pre9 ++ (j.sh.take k).flatMap (fun x => shiftW ++ rgT [x] ++ [10]))), (51, .slice A j.sh.length c), (52, .int .i64 ((j.sh.length : Nat) : Int)), (53, .int .i64 (k : Int))] ∧ Mem w noEx wc [(g1, .cells (jobL j A c))]) ?_ ?_
 ·have e0 : pre9 = pre9 ++ (j.sh.take 0).flatMap (fun x => shiftW ++ rgT [x] ++ [10]) := by simp
  rw [e0] at T
  exact ⟨_, 0, rfl, (Nat.zero_le _), (Nat.le_refl _), T.pick [4, 3, 2, 1, 0] rfl, M.mask [true] rfl⟩
 clear T M
 rintro mz ac wc ⟨k, hmm1, hk, hs, T, M⟩
 refine Zsr ?_
 refine lq T (rn_lss rfl (T.e 4 rfl) (T.e 3 rfl)) ?_; clear T ac; intro ac T
 refine Zln ?_
 refine wp_seq ?_
 refine wp_if (T.e 0 rfl) ?_ ?_
 ·intro h2
  obtain ⟨x0, x1, hkx, -⟩ := rc_next (l := j.sh) (k := k) (by omega)
  have hx := gj.sh _ (List.mem_of_getElem? hkx)
  dsimp only at hx
  have hS9 := shT_len (j.sh.take (k + 1)) (fun p hp => gj.sm.sh p ((List.take_sublist _ _).subset hp))
  rw [List.length_take] at hS9
  refine Zsk ?_
  refine wp_seq ?_
  refine wp_block ?_
  refine Zsr ?_
  refine Zg2 (v2 := (.agg #[.int .i64 x0, .int .i64 x1])) T (Zq (Zri (size := 2) k rfl (T.e 3 rfl) (T.e 5 rfl) ⟨_, Tryz.underlying28, by kernel_rfl⟩ rfl (by omega) (SJ.at0 (by omega)))) rfl (fun _ T => Zq (rn_rowat (Sp.rcR SJ M (Zz9 _) hkx) rfl (T.e 0 rfl) rfl)) rfl ?_; clear T ac; intro ac T
  refine Zl2 ?_
  refine Zoa M T rfl rfl rfl rfl ?_; clear M T; intro g4 wc ac M T
  refine Zl2 ?_
  refine Zos M T rfl rfl (T.e 0 rfl) (T.e 1 rfl) rfl .head rfl (by simp) rfl (by kernel_rfl) ?_; clear M T; intro wc ac M T
  replace T := T.pick [0, 4, 5, 6, 7, 8] rfl
  refine Zln ?_
  refine wp_region_lit ?_
  refine Zg2 T (Zq (Zrm rfl (T.e 2 rfl))) rfl (Zr M 0 1 rfl rfl rfl rfl) rfl ?_; clear T ac; intro ac T
  refine Zl2 ?_
  refine ow_bs (e := 23) [.int .i64 x0, .int .i64 x1] M T rfl rfl rfl rfl (.cons (T.e 0 rfl) .nil) (fun _ => by kernel_rfl) ?_; clear M T; intro g5 wc ac M T
  refine Zl2 ?_
  refine Zoc (first := []) (cap := []) T rfl rfl rfl rfl evf (.cons (T.e 0 rfl) .nil) Tryz.func47 rfl rfl ?_
  refine Calls.mono (rangesT_any _ _ _ ([(x0, x1)]) _ (M.rdOwn (Zne (i := 0) rfl) rfl rfl) (by omega) (by intro p hp; simp only [List.mem_cons, List.not_mem_nil, or_false] at hp; rcases hp with rfl <;> exact ⟨⟨by dsimp only; omega, by dsimp only; omega⟩, by dsimp only; omega, by dsimp only; omega⟩) (hT.mem0 M)) ?_
  clear T; rintro e wc ⟨rfl, hb⟩ ac T
  replace M := M.call hb; clear hb
  have hru5 := rgT_len ([(x0, x1)]) (by intro p hp; simp only [List.mem_cons, List.not_mem_nil, or_false] at hp; rcases hp with rfl <;> exact ⟨⟨by dsimp only; omega, by dsimp only; omega⟩, by dsimp only; omega, by dsimp only; omega⟩)
  simp only [List.length_cons, List.length_nil] at hru5
  refine Zg3 T (Zq (rn_sadd rfl evc (T.e 0 rfl) (by (try simp only [List.length_append, List.length_cons, List.length_nil]); omega))) rfl (fun _ T => Zq (rn_sadd rfl (T.e 0 rfl) evc (by (try simp only [List.length_append, List.length_cons, List.length_nil]); omega))) rfl (fun _ T => Zq (rn_sadd rfl (T.e 5 rfl) (T.e 0 rfl) (by (try simp only [List.length_append, List.length_cons, List.length_nil]); omega))) rfl ?_; clear T ac; intro ac T
  refine l_q (v := (sv ((pre9 ++ (j.sh.take k).flatMap (fun x => shiftW ++ rgT [x] ++ [10])) ++ ((([115, 104, 105, 102, 116]) ++ (rgT ([(x0, x1)]))) ++ ([10]))))) (T.pick [0, 1, 2, 3, 4, 5, 6, 7, 8, 10, 11, 12] rfl) rfl rfl rfl rfl (Zra rfl (T.e 0 rfl)) ?_; clear T ac; intro ac T
  refine wpList_nil ?_
  replace T := T.pick [0, 9, 10, 11, 12] rfl
  replace M := M.mask [false, false, true] rfl
  refine Znb ?_
  refine nm_then ?_
  refine wp_region_lit ?_
  refine lq T (rn_add rfl (T.e 4 rfl) evc (by omega)) ?_; clear T ac; intro ac T
  refine l_q (v := (.int .i64 ((k : Int) + 1))) (T.pick [0, 1, 2, 3, 4] rfl) rfl rfl rfl rfl (Zrm rfl (T.e 0 rfl)) ?_; clear T ac; intro ac T
  replace T := T.pick [0, 2, 3, 4, 5] rfl
  refine Zln ?_
  have e9 : ((pre9 ++ (j.sh.take k).flatMap (fun x => shiftW ++ rgT [x] ++ [10])) ++ ((([115, 104, 105, 102, 116]) ++ (rgT ([(x0, x1)]))) ++ ([10]))) = pre9 ++ (j.sh.take (k + 1)).flatMap (fun x => shiftW ++ rgT [x] ++ [10]) := by rw [take_sn hkx, List.flatMap_append]; simp [shiftW, rgT]
  rw [e9] at T
  exact ⟨_, by omega, k + 1, rfl, (by omega), (by omega), T.pick [2, 1, 3, 4, 0] rfl, M.mask [true] rfl⟩
 intro h2
 refine wp_exit ?_
 refine Zet ?_
 refine Zet ?_
 refine ex_hit ?_
 refine Zns ?_
 refine Zgs M (M.mask [true] rfl) 14 (by kernel_rfl) rfl (by kernel_rfl) ?_
 clear M; intro wc M
 refine gq T 0 1 rfl (fun _ _ _ _ _ => (Zrm rfl (T.e 2 rfl))) ?_; clear T ac; intro ac T
 refine gq T 1 3 rfl (fun _ _ _ _ _ => (rn_sadd rfl (T.e 0 rfl) evc (by (try simp only [List.length_append, List.length_cons, List.length_nil]); omega))) ?_; clear T ac; intro ac T
 refine gq (v := (.pointer (some ⟨g1, 16, none⟩))) T 2 7 rfl (fun _ _ _ _ _ => (Zrf (off := 16) rfl (T.e 3 rfl) (fun _ _ _ => by kernel_rfl))) ?_; clear T ac; intro ac T
 refine gq T 3 15 rfl (fun B w' hD hl hS => (Zro (Mem.nth (show Mem w noEx w' _ from hS) 0 rfl) rfl (T.e 0 rfl) rfl)) ?_; clear T ac; intro ac T
 refine gq (v := (.pointer (some ⟨g1, 17, none⟩))) T 7 143 rfl (fun _ _ _ _ _ => (Zrf (off := 17) rfl (T.e 5 rfl) (fun _ _ _ => by kernel_rfl))) ?_; clear T ac; intro ac T
 refine gq T 8 399 rfl (fun B w' hD hl hS => (Zro (Mem.nth (show Mem w noEx w' _ from hS) 0 rfl) rfl (T.e 0 rfl) rfl)) ?_; clear T ac; intro ac T
 refine gw 4 415 ?_; intro K hK
 refine Zoc (first := []) (cap := []) T rfl rfl rfl rfl evf (.cons (T.e 2 rfl) .nil) Tryz.func48 rfl rfl ?_
 refine Calls.mono (Itoa_any j.wi _ (by (try dsimp only); omega) (hT.mem0 M)) ?_
 clear T; rintro e wc ⟨rfl, hb⟩ ac T
 replace M := M.call hb; clear hb
 have hiu6 := itoa_len (v := j.wi) ⟨by (try dsimp only); omega, by (try dsimp only); omega⟩
 refine Zso hK _ _ (M.mask [true] rfl) ?_; clear hK K
 refine gq T 5 447 rfl (fun _ _ _ _ _ => (rn_sadd rfl (T.e 5 rfl) (T.e 0 rfl) (by (try simp only [List.length_append, List.length_cons, List.length_nil]); omega))) ?_; clear T ac; intro ac T
 refine gq T 6 511 rfl (fun _ _ _ _ _ => (rn_sadd rfl (T.e 0 rfl) evc (by (try simp only [List.length_append, List.length_cons, List.length_nil]); omega))) ?_; clear T ac; intro ac T
 refine gw 9 1023 ?_; intro K hK
 refine Zoc (first := []) (cap := []) T rfl rfl rfl rfl evf (.cons (T.e 3 rfl) .nil) Tryz.func48 rfl rfl ?_
 refine Calls.mono (Itoa_any j.me _ (by (try dsimp only); omega) (hT.mem0 M)) ?_
 clear T; rintro e wc ⟨rfl, hb⟩ ac T
 replace M := M.call hb; clear hb
 have hiu7 := itoa_len (v := j.me) ⟨by (try dsimp only); omega, by (try dsimp only); omega⟩
 refine Zso hK _ _ (M.mask [true] rfl) ?_; clear hK K
 refine gq T 10 2047 rfl (fun _ _ _ _ _ => (rn_sadd rfl (T.e 1 rfl) (T.e 0 rfl) (by (try simp only [List.length_append, List.length_cons, List.length_nil]); omega))) ?_; clear T ac; intro ac T
 refine gq T 11 4095 rfl (fun _ _ _ _ _ => (rn_sadd rfl (T.e 0 rfl) evc (by (try simp only [List.length_append, List.length_cons, List.length_nil]); omega))) ?_; clear T ac; intro ac T
 refine gq T 12 8191 rfl (fun _ _ _ _ _ => (Zra rfl (T.e 0 rfl))) ?_; clear T ac; intro ac T
 refine gq T 13 16383 rfl (fun _ _ _ _ _ => (Zra rfl evc)) ?_; clear T ac; intro ac T
 refine Zgd (by kernel_rfl) ?_
 replace T := T.pick [0, 1] rfl
 replace M := M.mask [false] rfl
 refine Znr ?_
 refine rt_2 T rfl (T.e 1 rfl) (T.e 0 rfl) ?_
 have e8 : j.sh.take k = j.sh := List.take_of_length_le (by omega)
 have e9 : ((((((pre9 ++ (j.sh.take k).flatMap (fun x => shiftW ++ rgT [x] ++ [10])) ++ ([112, 97, 115, 115, 32])) ++ (Lib.itoa j.wi)) ++ ([32])) ++ (Lib.itoa j.me)) ++ ([10])) = wrT j := by unfold wrT; rw [if_pos hj0, e8, hpre]; simp [writeT, tongueW, fileW, passW, rgT]
 rw [e9, hj0]
 exact ⟨rfl, M.below⟩
theorem num_isSome {s : List UInt8} {n : Int} {ev : Value} (hok : nilB ev = true → Lib.atoiAll s = .ok n) (hno : nilB ev = false → ∀ v, Lib.atoiAll s ≠ .ok v) : (nilB ev && decide ((trim45 s).length ≤ 3) && decide (Lib.itoa n = s)) = (numP s).isSome := by
 unfold numP
 cases h : nilB ev with
 | false =>
  split
  ·rename_i v hv; exact absurd hv (hno h v)
  ·rfl
 | true =>
  rw [hok h]
  dsimp only
  by_cases h1 : (trim45 s).length ≤ 3 <;> by_cases h2 : Lib.itoa n = s <;> simp [h1, h2]
theorem num_val {s : List UInt8} {n : Int} {ev : Value} (hok : nilB ev = true → Lib.atoiAll s = .ok n) (hno : nilB ev = false → ∀ v, Lib.atoiAll s ≠ .ok v) {v : Int} (hv : numP s = some v) : n = v := by
 unfold numP at hv
 split at hv
 ·rename_i v' ha
  split at hv
  ·cases hv
   cases h : nilB ev with
   | false => exact absurd ha (hno h _)
   | true => rw [hok h] at ha; injection ha
  ·cases hv
 ·cases hv
def NumPost (f : List UInt8 → Option Int) (s : List UInt8) (w : World) (e : Ending) (w' : World) : Prop := ∃ n : Int, e = .returned (.tuple #[.int .i64 n, .bool (f s).isSome]) ∧ (∀ v, f s = some v → n = v) ∧ Below w.heap.size w w'
theorem number_any (s : List UInt8) (w : World) (hs : s.length ≤ 1000000) (hT : StrW w)  :
   Calls Tryz.prog 128 #[sv s] w (NumPost numP s w) := by
 refine Zpx noEx Tryz.func128 rfl 26 rfl [sv s] rfl rfl (Mem.init w _) ?_
 intro ac wc T M
 refine Zsr ?_
 refine Zg2 T (Zq (Zra rfl evc)) rfl (Zc rfl) rfl ?_; clear T ac; intro ac T
 replace T := T.pick [2] rfl
 refine Zln ?_
 refine Zsr ?_
 refine lq T (Zrm rfl (T.e 0 rfl)) ?_; clear T ac; intro ac T
 refine Zl2 ?_
 refine Zoc (first := []) (cap := []) T rfl rfl rfl rfl evf (.cons (T.e 0 rfl) .nil) Tryz.func208 rfl rfl ?_
 refine Calls.mono (Atoi_any s _ (by omega) (hT.mem0 M)) ?_
 clear T; rintro e wc ⟨nu1, evu1, rfl, hb0u1, hevu1, hoku1, hnou1, hb⟩ ac T
 replace M := M.call hb; clear hb
 refine Zg5 T (Zq (Zrm rfl (T.e 0 rfl))) rfl (Ze 0 rfl rfl rfl) rfl (Ze 1 rfl rfl rfl) rfl (Za 1 rfl rfl) rfl (Za 1 rfl rfl) rfl ?_; clear T ac; intro ac T
 replace T := T.pick [0, 1, 7] rfl
 refine Zln ?_
 refine cut_seq (fun ac wc => Tm ac 26 [(2, .int .i64 nu1), (3, .bool ((nilB evu1) && ((decide ((((trim45 s).length : Nat) : Int) ≤ 3)) && (decide ((Lib.itoa nu1) = s)))))] ∧ Mem w noEx wc []) ?_ ?_
 ·refine wp_region_lit ?_
  refine Zg4 T (Zq (Zrm rfl (T.e 1 rfl))) rfl (Zm 1 rfl rfl) rfl (fun _ T => Zq (rn_ifnil rfl (T.e 0 rfl) hevu1)) rfl (Zm 0 rfl rfl) rfl ?_; clear T ac; intro ac T
  rcases Bool.eq_false_or_eq_true (nilB evu1) with h1 | h1
  ·refine lw T (Zwy rfl rfl (T.e 0 rfl) h1) (Zrm rfl (T.e 6 rfl)) ?_; clear T ac; intro ac T
   refine l_w (Zwy rfl rfl (T.e 1 rfl) h1) ?_; intro K hK
   refine Zoc (first := []) (cap := []) T rfl rfl rfl rfl evf (.cons (T.e 0 rfl) (.cons evc .nil)) Tryz.func209 rfl rfl ?_
   refine Calls.mono (TrimPrefix_any s _) ?_
   clear T; rintro e wc ⟨rfl, hb⟩ ac T
   replace M := M.call hb; clear hb
   refine Zso hK _ _ ?_; clear hK K
   refine Zg4 T (Zw (Zwy rfl rfl (T.e 2 rfl) h1) (rn_slen rfl Tryz.underlying9 (T.e 0 rfl))) rfl (fun _ T => Zw (Zwy rfl rfl (T.e 3 rfl) h1) (rn_leq rfl (T.e 0 rfl) evc)) rfl (fun _ T => Zq (Zr1 rfl (T.e 4 rfl) h1 (T.e 0 rfl))) rfl (Zm 0 rfl rfl) rfl ?_; clear T ac; intro ac T
   rcases Bool.eq_false_or_eq_true (decide ((((trim45 s).length : Nat) : Int) ≤ 3)) with h2 | h2
   ·replace h2 := of_decide_eq_true h2
    refine lw T (Zwy rfl rfl (T.e 0 rfl) (Zdt h2)) (Zrm rfl (T.e 11 rfl)) ?_; clear T ac; intro ac T
    refine l_w (Zwy rfl rfl (T.e 1 rfl) (Zdt h2)) ?_; intro K hK
    refine Zoc (first := []) (cap := []) T rfl rfl rfl rfl evf (.cons (T.e 0 rfl) .nil) Tryz.func48 rfl rfl ?_
    refine Calls.mono (Itoa_any nu1 _ hb0u1 (hT.mem0 M)) ?_
    clear T; rintro e wc ⟨rfl, hb⟩ ac T
    replace M := M.call hb; clear hb
    refine Zso hK _ _ ?_; clear hK K
    refine Zg5 T (Zw (Zwy rfl rfl (T.e 2 rfl) (Zdt h2)) (Zrm rfl (T.e 14 rfl))) rfl (fun _ T => Zw (Zwy rfl rfl (T.e 3 rfl) (Zdt h2)) (rn_seql rfl (T.e 1 rfl) (T.e 0 rfl))) rfl (fun _ T => Zq (Zr1 rfl (T.e 4 rfl) (Zdt h2) (T.e 0 rfl))) rfl (Za 14 rfl rfl) rfl (Za 1 rfl rfl) rfl ?_; clear T ac; intro ac T
    refine wpList_nil ?_
    replace T := T.pick [0, 1] rfl
    exact ⟨(T.pick (E' := [(2, .int .i64 nu1), (3, .bool (decide ((Lib.itoa nu1) = s)))]) [1, 0] rfl).as (by (try rw [show (nilB evu1) = true from h1]); (try rw [show (decide ((((trim45 s).length : Nat) : Int) ≤ 3)) = true from (Zdt h2)]); (try rfl)), M.mask [] rfl⟩
   replace h2 := of_decide_eq_false h2
   refine Zg7 T (Zp (Zwn rfl rfl (T.e 0 rfl) (Zdf h2))) rfl (fun _ T => Zp (Zwn rfl rfl (T.e 1 rfl) (Zdf h2))) rfl (fun _ T => Zp (Zwn rfl rfl (T.e 2 rfl) (Zdf h2))) rfl (fun _ T => Zp (Zwn rfl rfl (T.e 3 rfl) (Zdf h2))) rfl (fun _ T => Zq (Zr0 rfl (T.e 4 rfl) (Zdf h2) evc)) rfl (Za 14 rfl rfl) rfl (Za 1 rfl rfl) rfl ?_; clear T ac; intro ac T
   refine wpList_nil ?_
   replace T := T.pick [0, 1] rfl
   exact ⟨(T.pick (E' := [(2, .int .i64 nu1), (3, .bool false)]) [1, 0] rfl).as (by (try rw [show (nilB evu1) = true from h1]); (try rw [show (decide ((((trim45 s).length : Nat) : Int) ≤ 3)) = false from (Zdf h2)]); (try rfl)), M.mask [] rfl⟩
  refine Zg8 T (Zp (Zwn rfl rfl (T.e 0 rfl) h1)) rfl (fun _ T => Zp (Zwn rfl rfl (T.e 1 rfl) h1)) rfl (fun _ T => Zp (Zwn rfl rfl (T.e 2 rfl) h1)) rfl (fun _ T => Zp (Zwn rfl rfl (T.e 3 rfl) h1)) rfl (fun _ T => Zq (Zr0 rfl (T.e 4 rfl) h1 evc)) rfl (Zm 0 rfl rfl) rfl (fun _ T => Zp (Zwn rfl rfl (T.e 0 rfl) rfl)) rfl (fun _ T => Zp (Zwn rfl rfl (T.e 1 rfl) rfl)) rfl ?_; clear T ac; intro ac T
  refine Zg5 T (Zp (Zwn rfl rfl (T.e 2 rfl) rfl)) rfl (fun _ T => Zp (Zwn rfl rfl (T.e 3 rfl) rfl)) rfl (fun _ T => Zq (Zr0 rfl (T.e 4 rfl) rfl evc)) rfl (Za 14 rfl rfl) rfl (Za 1 rfl rfl) rfl ?_; clear T ac; intro ac T
  refine wpList_nil ?_
  replace T := T.pick [0, 1] rfl
  exact ⟨(T.pick (E' := [(2, .int .i64 nu1), (3, .bool false)]) [1, 0] rfl).as (by (try rw [show (nilB evu1) = false from h1]); (try rfl)), M.mask [] rfl⟩
 clear T M
 rintro ac wc ⟨T, M⟩
 refine wp_ret ?_
 refine rt_2 T rfl (T.e 0 rfl) (T.e 1 rfl) ?_
 have e9 : ((nilB evu1) && ((decide ((((trim45 s).length : Nat) : Int) ≤ 3)) && (decide ((Lib.itoa nu1) = s)))) = (numP s).isSome := by rw [← num_isSome hoku1 hnou1, Bool.and_assoc, show decide ((((trim45 s).length : Nat) : Int) ≤ 3) = decide ((trim45 s).length ≤ 3) from decide_eq_decide.2 (by omega)]
 exact ⟨nu1, by rw [← e9], fun v hv => num_val hoku1 hnou1 hv, M.below⟩
open Go.RowKit
theorem lineA_at {word s w0 : List UInt8} {R N : Nat} (h : (spl 32 s)[0]? = some w0) : lineA word R N s = if w0 = word ∧ (spl 32 s).length = 1 + R + N then wordsA R ((spl 32 s).drop 1) else none := by
 unfold lineA
 cases e : spl 32 s with
 | nil => rw [e] at h; cases h
 | cons a r =>
  rw [e] at h
  injection h with h
  subst h
  dsimp only
  have e2 : (a :: r).length = 1 + R + N ↔ r.length = R + N := by rw [List.length_cons]; omega
  simp only [e2]
  rfl
def andR : Option (List Int) → Option (List Int) → Option (List Int)
 | some a, some r => some (a ++ r)
 | _, _ => none
theorem cond_ok {a w : List UInt8} {x y : Int} (h : (!decide (a = w) || !decide (x = y)) = false) : a = w ∧ x = y := by simpa using h
theorem cond_bad {a w : List UInt8} {x y : Int} (h : (!decide (a = w) || !decide (x = y)) = true) : ¬ (a = w ∧ x = y) := by
 rintro ⟨rfl, rfl⟩
 simp at h
theorem Sl.spW {e n c size : Nat} {A : Option Addr} {xs : List Value} {I : List (Nat × BA)} (h : Sl e size (.slice A n c) n xs I) (hl : xs.length = n * size) : ∃ b o, ∀ (w : World) (ex : Nat → Prop), Sp w ex I A n size b o xs := by
 rcases h with ⟨h1, rfl, rfl, rfl⟩ | ⟨g, cap, h1, rfl⟩
 ·exact ⟨0, 0, fun w ex => Sp.nil⟩
 ·injection h1 with h1 _ h2
  subst h1
  exact ⟨g, 0, fun w ex => Sp.row (by omega)⟩
theorem Mem.spinW {w0 w : World} {ex : Nat → Prop} (X Y Z : List (Nat × BA)) (M : Mem w0 ex w (X ++ (Y ++ Z))) : Mem w0 ex w (X ++ (Z ++ Y)) :=
 have hp : (X ++ (Y ++ Z)).Perm (X ++ (Z ++ Y)) := List.Perm.append_left X List.perm_append_comm
 ⟨M.os, M.tape, M.output, M.size, M.block, fun p h => M.blk p (hp.mem_iff.2 h), (hp.map _).nodup_iff.1 M.nd⟩
theorem Mem.lastTwo {w0 w : World} {ex : Nat → Prop} {X Y Z : List (Nat × BA)} (M : Mem w0 ex w (X ++ Y ++ Z)) : Mem w0 ex w (X ++ Z ++ Y) := by
 rw [List.append_assoc] at M ⊢
 exact Mem.spinW X Y Z M
theorem spl_len (c : UInt8) : ∀ s : List UInt8, (spl c s).length ≤ s.length + 1
 | [] => Nat.le_refl _
 | b :: r => by
  have ih := spl_len c r
  unfold spl
  split
  ·simp only [List.length_cons]; omega
  ·cases e : spl c r with
   | nil => simp
   | cons x l => rw [e] at ih; simpa using Nat.le_succ_of_le ih
theorem spl_mem_len {c : UInt8} : ∀ {s x : List UInt8}, x ∈ spl c s → x.length ≤ s.length
 | [], x, h => by
  rcases List.mem_singleton.1 h with rfl
  exact Nat.le_refl _
 | b :: r, x, h => by
  unfold spl at h
  split at h
  ·rcases List.mem_cons.1 h with rfl | h
   ·exact Nat.zero_le _
   ·have := spl_mem_len h
    rw [List.length_cons]; omega
  ·cases e : spl c r with
   | nil => rw [e] at h; rcases List.mem_singleton.1 h with rfl; simp
   | cons y l =>
    rw [e] at h
    rcases List.mem_cons.1 h with rfl | h
    ·have := spl_mem_len (s := r) (x := y) (by rw [e]; exact Zz2)
     simp only [List.length_cons]; omega
    ·have := spl_mem_len (s := r) (x := x) (by rw [e]; exact Zz1 h)
     rw [List.length_cons]; omega
theorem isSome_val {o : Option Int} {n : Int} (h : ∀ v, o = some v → n = v) (hs : (!o.isSome) = false) : o = some n := by
 cases o with
 | none => cases hs
 | some v => rw [h v rfl]
theorem isSome_not {o : Option Int} (hs : (!o.isSome) = true) : o = none := by
 cases o with
 | none => rfl
 | some v => cases hs
theorem take0_any (bj : Nat) (j : Jb) (A : Option Addr) (c : Nat) (X : Option Addr) (cx : Nat) (Y : Option Addr) (cy : Nat) (p0 p1 t0 t1 r0 r1 : Int) (w : World) (hq : Bk w bj #[.int .i64 j.p0, .int .i64 j.p1, .int .i64 j.t0, .int .i64 j.t1, .int .i64 j.r0, .int .i64 j.r1, .int .i64 j.u0, .int .i64 j.u1, .int .i64 j.d0, .int .i64 j.d1, .int .i64 j.a0, .int .i64 j.a1, .int .i64 j.b0, .int .i64 j.b1, .int .i64 j.le, .slice A j.sh.length c, .int .i64 j.wi, .int .i64 j.me]) (hx : Rd w w.heap.size 2 X 3 (rc [(p0, p1), (t0, t1), (r0, r1)])) (hxe : ∀ b o, X = some ⟨b, o, none⟩ → b ≠ bj) (hy : Rd w w.heap.size 1 Y 0 (ic [])) (hye : ∀ b o, Y = some ⟨b, o, none⟩ → b ≠ bj) :
  Calls Tryz.prog 123 #[.pointer (some ⟨bj, 0, none⟩), .slice X 3 cx, .slice Y 0 cy] w fun e w' => e = .returned (.tuple #[]) ∧ Mem w (fun b => b = bj) w' [(bj, .cells [.int .i64 p0, .int .i64 p1, .int .i64 t0, .int .i64 t1, .int .i64 r0, .int .i64 r1, .int .i64 j.u0, .int .i64 j.u1, .int .i64 j.d0, .int .i64 j.d1, .int .i64 j.a0, .int .i64 j.a1, .int .i64 j.b0, .int .i64 j.b1, .int .i64 j.le, .slice A j.sh.length c, .int .i64 j.wi, .int .i64 j.me])] := by
 obtain ⟨bX, oX, SX⟩ := Sp.oldEx hx hxe
 obtain ⟨bY, oY, SY⟩ := Sp.oldEx hy hye
 refine Zpx (fun b => b = bj) Tryz.func123 rfl 27 rfl [.pointer (some ⟨bj, 0, none⟩), .slice X 3 cx, .slice Y 0 cy] rfl rfl (Mem.initEx (p := .cells [.int .i64 j.p0, .int .i64 j.p1, .int .i64 j.t0, .int .i64 j.t1, .int .i64 j.r0, .int .i64 j.r1, .int .i64 j.u0, .int .i64 j.u1, .int .i64 j.d0, .int .i64 j.d1, .int .i64 j.a0, .int .i64 j.a1, .int .i64 j.b0, .int .i64 j.b1, .int .i64 j.le, .slice A j.sh.length c, .int .i64 j.wi, .int .i64 j.me]) hq) ?_
 intro ac wc T M
 refine Zgs M (M.perm [] rfl rfl) 24 (by kernel_rfl) rfl (by kernel_rfl) ?_
 clear M; intro wc M
 refine g_addG 15 M ?_
 refine gq T 0 1 rfl (fun _ _ _ _ _ => (Zrm rfl (T.e 0 rfl))) ?_; clear T ac; intro ac T
 refine gq T 1 3 rfl (fun _ _ _ _ _ => (Zrm rfl (T.e 1 rfl))) ?_; clear T ac; intro ac T
 refine gq T 2 7 rfl (fun _ _ _ _ _ => (Zrm rfl (T.e 2 rfl))) ?_; clear T ac; intro ac T
 refine gq T 3 15 rfl (fun _ _ _ _ _ => (Zrm rfl (T.e 4 rfl))) ?_; clear T ac; intro ac T
 refine gq T 4 31 rfl (fun _ _ _ _ _ => (Zri (size := 2) 0 rfl (T.e 0 rfl) evc ⟨_, Tryz.underlying28, by kernel_rfl⟩ rfl (by omega) (SX.at0 (by omega)))) ?_; clear T ac; intro ac T
 refine gq (v := (.agg #[.int .i64 p0, .int .i64 p1])) T 5 63 rfl (fun B w' hD hl hS => (rn_rowat (Sp.rcR SX (show Mem w (fun b => b = bj) w' _ from ((MA.lft hS) (hD.wait (i := 5) (m := 15) (by kernel_rfl) hl))) (Zz9 _) rfl) rfl (T.e 0 rfl) rfl)) ?_; clear T ac; intro ac T
 refine gq T 6 127 rfl (fun _ _ _ _ _ => (Zrm rfl (T.e 7 rfl))) ?_; clear T ac; intro ac T
 refine gq T 7 255 rfl (fun _ _ _ _ _ => (Zri (size := 2) 1 rfl (T.e 0 rfl) evc ⟨_, Tryz.underlying28, by kernel_rfl⟩ rfl (by omega) (SX.at0 (by omega)))) ?_; clear T ac; intro ac T
 refine gq (v := (.agg #[.int .i64 t0, .int .i64 t1])) T 8 511 rfl (fun B w' hD hl hS => (rn_rowat (Sp.rcR SX (show Mem w (fun b => b = bj) w' _ from ((MA.lft hS) (hD.wait (i := 8) (m := 15) (by kernel_rfl) hl))) (Zz9 _) rfl) rfl (T.e 0 rfl) rfl)) ?_; clear T ac; intro ac T
 refine gq T 9 1023 rfl (fun _ _ _ _ _ => (Zrm rfl (T.e 10 rfl))) ?_; clear T ac; intro ac T
 refine gq T 10 2047 rfl (fun _ _ _ _ _ => (Zri (size := 2) 2 rfl (T.e 0 rfl) evc ⟨_, Tryz.underlying28, by kernel_rfl⟩ rfl (by omega) (SX.at0 (by omega)))) ?_; clear T ac; intro ac T
 refine gq (v := (.agg #[.int .i64 r0, .int .i64 r1])) T 11 4095 rfl (fun B w' hD hl hS => (rn_rowat (Sp.rcR SX (show Mem w (fun b => b = bj) w' _ from ((MA.lft hS) (hD.wait (i := 11) (m := 15) (by kernel_rfl) hl))) (Zz9 _) rfl) rfl (T.e 0 rfl) rfl)) ?_; clear T ac; intro ac T
 refine gq T 12 8191 rfl (fun _ _ _ _ _ => (rn_nil rfl (T.e 11 rfl))) ?_; clear T ac; intro ac T
 refine gq (v := (.pointer (some ⟨bj, 0, none⟩))) T 13 16383 rfl (fun _ _ _ _ _ => (Zrf (off := 0) rfl (T.e 0 rfl) (fun _ _ _ => by kernel_rfl))) ?_; clear T ac; intro ac T
 refine gq (v := (.pointer (some ⟨bj, 0, none⟩))) T 14 32767 rfl (fun _ _ _ _ _ => (Zrf (off := 0) rfl (T.e 0 rfl) (fun _ _ _ => by kernel_rfl))) ?_; clear T ac; intro ac T
 refine gw 15 65535 ?_; intro K hK
 refine Zos M T rfl rfl (T.e 0 rfl) (T.e 9 rfl) rfl .head rfl (by simp) rfl (by kernel_rfl) ?_; clear M T; intro wc ac M T
 refine Zso hK _ _ (MA.mk (fun h => (no_of (by kernel_rfl) h).elim) (M.mask [false] rfl)) ?_; clear hK K
 refine gq T 16 131071 rfl (fun _ _ _ _ _ => (rn_nil rfl (T.e 13 rfl))) ?_; clear T ac; intro ac T
 refine gq (v := (.pointer (some ⟨bj, 0, none⟩))) T 17 262143 rfl (fun _ _ _ _ _ => (Zrf (off := 0) rfl (T.e 0 rfl) (fun _ _ _ => by kernel_rfl))) ?_; clear T ac; intro ac T
 refine gq (v := (.pointer (some ⟨bj, 2, none⟩))) T 18 524287 rfl (fun _ _ _ _ _ => (Zrf (off := 2) rfl (T.e 0 rfl) (fun _ _ _ => by kernel_rfl))) ?_; clear T ac; intro ac T
 refine gw 19 1048575 ?_; intro K hK
 refine Zos M T rfl rfl (T.e 0 rfl) (T.e 9 rfl) rfl .head rfl (by simp) rfl (by kernel_rfl) ?_; clear M T; intro wc ac M T
 refine Zso hK _ _ (MA.mk (fun h => (no_of (by kernel_rfl) h).elim) (M.mask [false] rfl)) ?_; clear hK K
 refine gq T 20 2097151 rfl (fun _ _ _ _ _ => (rn_nil rfl (T.e 15 rfl))) ?_; clear T ac; intro ac T
 refine gq (v := (.pointer (some ⟨bj, 0, none⟩))) T 21 4194303 rfl (fun _ _ _ _ _ => (Zrf (off := 0) rfl (T.e 0 rfl) (fun _ _ _ => by kernel_rfl))) ?_; clear T ac; intro ac T
 refine gq (v := (.pointer (some ⟨bj, 4, none⟩))) T 22 8388607 rfl (fun _ _ _ _ _ => (Zrf (off := 4) rfl (T.e 0 rfl) (fun _ _ _ => by kernel_rfl))) ?_; clear T ac; intro ac T
 refine gw 23 16777215 ?_; intro K hK
 refine Zos M T rfl rfl (T.e 0 rfl) (T.e 9 rfl) rfl .head rfl (by simp) rfl (by kernel_rfl) ?_; clear M T; intro wc ac M T
 refine Zso hK _ _ (MA.mk (fun h => (no_of (by kernel_rfl) h).elim) (M.mask [false] rfl)) ?_; clear hK K
 refine Zgd (by kernel_rfl) ?_
 replace T := T.pick [] rfl
 refine nm_0 T rfl ?_
 exact ⟨rfl, M⟩
theorem take1_any (bj : Nat) (j : Jb) (A : Option Addr) (c : Nat) (X : Option Addr) (cx : Nat) (Y : Option Addr) (cy : Nat) (u0 u1 d0 d1 a0 a1 b0 b1 le : Int) (w : World) (hq : Bk w bj #[.int .i64 j.p0, .int .i64 j.p1, .int .i64 j.t0, .int .i64 j.t1, .int .i64 j.r0, .int .i64 j.r1, .int .i64 j.u0, .int .i64 j.u1, .int .i64 j.d0, .int .i64 j.d1, .int .i64 j.a0, .int .i64 j.a1, .int .i64 j.b0, .int .i64 j.b1, .int .i64 j.le, .slice A j.sh.length c, .int .i64 j.wi, .int .i64 j.me]) (hx : Rd w w.heap.size 2 X 4 (rc [(u0, u1), (d0, d1), (a0, a1), (b0, b1)])) (hxe : ∀ b o, X = some ⟨b, o, none⟩ → b ≠ bj) (hy : Rd w w.heap.size 1 Y 1 (ic [le])) (hye : ∀ b o, Y = some ⟨b, o, none⟩ → b ≠ bj) :
  Calls Tryz.prog 124 #[.pointer (some ⟨bj, 0, none⟩), .slice X 4 cx, .slice Y 1 cy] w fun e w' => e = .returned (.tuple #[]) ∧ Mem w (fun b => b = bj) w' [(bj, .cells [.int .i64 j.p0, .int .i64 j.p1, .int .i64 j.t0, .int .i64 j.t1, .int .i64 j.r0, .int .i64 j.r1, .int .i64 u0, .int .i64 u1, .int .i64 d0, .int .i64 d1, .int .i64 a0, .int .i64 a1, .int .i64 b0, .int .i64 b1, .int .i64 le, .slice A j.sh.length c, .int .i64 j.wi, .int .i64 j.me])] := by
 obtain ⟨bX, oX, SX⟩ := Sp.oldEx hx hxe
 obtain ⟨bY, oY, SY⟩ := Sp.oldEx hy hye
 refine Zpx (fun b => b = bj) Tryz.func124 rfl 41 rfl [.pointer (some ⟨bj, 0, none⟩), .slice X 4 cx, .slice Y 1 cy] rfl rfl (Mem.initEx (p := .cells [.int .i64 j.p0, .int .i64 j.p1, .int .i64 j.t0, .int .i64 j.t1, .int .i64 j.r0, .int .i64 j.r1, .int .i64 j.u0, .int .i64 j.u1, .int .i64 j.d0, .int .i64 j.d1, .int .i64 j.a0, .int .i64 j.a1, .int .i64 j.b0, .int .i64 j.b1, .int .i64 j.le, .slice A j.sh.length c, .int .i64 j.wi, .int .i64 j.me]) hq) ?_
 intro ac wc T M
 refine Zgs M (M.perm [] rfl rfl) 40 (by kernel_rfl) rfl (by kernel_rfl) ?_
 clear M; intro wc M
 refine g_addG 23 M ?_
 refine gq T 0 1 rfl (fun _ _ _ _ _ => (Zrm rfl (T.e 0 rfl))) ?_; clear T ac; intro ac T
 refine gq T 1 3 rfl (fun _ _ _ _ _ => (Zrm rfl (T.e 1 rfl))) ?_; clear T ac; intro ac T
 refine gq T 2 7 rfl (fun _ _ _ _ _ => (Zrm rfl (T.e 2 rfl))) ?_; clear T ac; intro ac T
 refine gq T 3 15 rfl (fun _ _ _ _ _ => (Zrm rfl (T.e 3 rfl))) ?_; clear T ac; intro ac T
 refine gq T 4 31 rfl (fun _ _ _ _ _ => (Zrm rfl (T.e 4 rfl))) ?_; clear T ac; intro ac T
 refine gq T 5 63 rfl (fun _ _ _ _ _ => (Zrm rfl (T.e 6 rfl))) ?_; clear T ac; intro ac T
 refine gq T 6 127 rfl (fun _ _ _ _ _ => (Zri (size := 2) 0 rfl (T.e 0 rfl) evc ⟨_, Tryz.underlying28, by kernel_rfl⟩ rfl (by omega) (SX.at0 (by omega)))) ?_; clear T ac; intro ac T
 refine gq (v := (.agg #[.int .i64 u0, .int .i64 u1])) T 7 255 rfl (fun B w' hD hl hS => (rn_rowat (Sp.rcR SX (show Mem w (fun b => b = bj) w' _ from ((MA.lft hS) (hD.wait (i := 7) (m := 23) (by kernel_rfl) hl))) (Zz9 _) rfl) rfl (T.e 0 rfl) rfl)) ?_; clear T ac; intro ac T
 refine gq T 8 511 rfl (fun _ _ _ _ _ => (Zrm rfl (T.e 9 rfl))) ?_; clear T ac; intro ac T
 refine gq T 9 1023 rfl (fun _ _ _ _ _ => (Zri (size := 2) 1 rfl (T.e 0 rfl) evc ⟨_, Tryz.underlying28, by kernel_rfl⟩ rfl (by omega) (SX.at0 (by omega)))) ?_; clear T ac; intro ac T
 refine gq (v := (.agg #[.int .i64 d0, .int .i64 d1])) T 10 2047 rfl (fun B w' hD hl hS => (rn_rowat (Sp.rcR SX (show Mem w (fun b => b = bj) w' _ from ((MA.lft hS) (hD.wait (i := 10) (m := 23) (by kernel_rfl) hl))) (Zz9 _) rfl) rfl (T.e 0 rfl) rfl)) ?_; clear T ac; intro ac T
 refine gq T 11 4095 rfl (fun _ _ _ _ _ => (Zrm rfl (T.e 12 rfl))) ?_; clear T ac; intro ac T
 refine gq T 12 8191 rfl (fun _ _ _ _ _ => (Zri (size := 2) 2 rfl (T.e 0 rfl) evc ⟨_, Tryz.underlying28, by kernel_rfl⟩ rfl (by omega) (SX.at0 (by omega)))) ?_; clear T ac; intro ac T
 refine gq (v := (.agg #[.int .i64 a0, .int .i64 a1])) T 13 16383 rfl (fun B w' hD hl hS => (rn_rowat (Sp.rcR SX (show Mem w (fun b => b = bj) w' _ from ((MA.lft hS) (hD.wait (i := 13) (m := 23) (by kernel_rfl) hl))) (Zz9 _) rfl) rfl (T.e 0 rfl) rfl)) ?_; clear T ac; intro ac T
 refine gq T 14 32767 rfl (fun _ _ _ _ _ => (Zrm rfl (T.e 15 rfl))) ?_; clear T ac; intro ac T
 refine gq T 15 65535 rfl (fun _ _ _ _ _ => (Zri (size := 2) 3 rfl (T.e 0 rfl) evc ⟨_, Tryz.underlying28, by kernel_rfl⟩ rfl (by omega) (SX.at0 (by omega)))) ?_; clear T ac; intro ac T
 refine gq (v := (.agg #[.int .i64 b0, .int .i64 b1])) T 16 131071 rfl (fun B w' hD hl hS => (rn_rowat (Sp.rcR SX (show Mem w (fun b => b = bj) w' _ from ((MA.lft hS) (hD.wait (i := 16) (m := 23) (by kernel_rfl) hl))) (Zz9 _) rfl) rfl (T.e 0 rfl) rfl)) ?_; clear T ac; intro ac T
 refine gq T 17 262143 rfl (fun _ _ _ _ _ => (Zrm rfl (T.e 19 rfl))) ?_; clear T ac; intro ac T
 refine gq T 18 524287 rfl (fun _ _ _ _ _ => (Zri (size := 1) 0 rfl (T.e 0 rfl) evc ⟨_, Tryz.underlying31, by kernel_rfl⟩ rfl (by omega) (SY.at0 (by omega)))) ?_; clear T ac; intro ac T
 refine gq T 19 1048575 rfl (fun B w' hD hl hS => (rn_cell (Sp.ic0 SY (show Mem w (fun b => b = bj) w' _ from ((MA.lft hS) (hD.wait (i := 19) (m := 23) (by kernel_rfl) hl))) (Zz9 _) rfl) rfl (T.e 0 rfl))) ?_; clear T ac; intro ac T
 refine gq T 20 2097151 rfl (fun _ _ _ _ _ => (rn_nil rfl (T.e 19 rfl))) ?_; clear T ac; intro ac T
 refine gq (v := (.pointer (some ⟨bj, 6, none⟩))) T 21 4194303 rfl (fun _ _ _ _ _ => (Zrf (off := 6) rfl (T.e 0 rfl) (fun _ _ _ => by kernel_rfl))) ?_; clear T ac; intro ac T
 refine gq (v := (.pointer (some ⟨bj, 6, none⟩))) T 22 8388607 rfl (fun _ _ _ _ _ => (Zrf (off := 0) rfl (T.e 0 rfl) (fun _ _ _ => by kernel_rfl))) ?_; clear T ac; intro ac T
 refine gw 23 16777215 ?_; intro K hK
 refine Zos M T rfl rfl (T.e 0 rfl) (T.e 15 rfl) rfl .head rfl (by simp) rfl (by kernel_rfl) ?_; clear M T; intro wc ac M T
 refine Zso hK _ _ (MA.mk (fun h => (no_of (by kernel_rfl) h).elim) (M.mask [false] rfl)) ?_; clear hK K
 refine gq T 24 33554431 rfl (fun _ _ _ _ _ => (rn_nil rfl (T.e 21 rfl))) ?_; clear T ac; intro ac T
 refine gq (v := (.pointer (some ⟨bj, 6, none⟩))) T 25 67108863 rfl (fun _ _ _ _ _ => (Zrf (off := 6) rfl (T.e 0 rfl) (fun _ _ _ => by kernel_rfl))) ?_; clear T ac; intro ac T
 refine gq (v := (.pointer (some ⟨bj, 8, none⟩))) T 26 134217727 rfl (fun _ _ _ _ _ => (Zrf (off := 2) rfl (T.e 0 rfl) (fun _ _ _ => by kernel_rfl))) ?_; clear T ac; intro ac T
 refine gw 27 268435455 ?_; intro K hK
 refine Zos M T rfl rfl (T.e 0 rfl) (T.e 15 rfl) rfl .head rfl (by simp) rfl (by kernel_rfl) ?_; clear M T; intro wc ac M T
 refine Zso hK _ _ (MA.mk (fun h => (no_of (by kernel_rfl) h).elim) (M.mask [false] rfl)) ?_; clear hK K
 refine gq T 28 536870911 rfl (fun _ _ _ _ _ => (rn_nil rfl (T.e 23 rfl))) ?_; clear T ac; intro ac T
 refine gq (v := (.pointer (some ⟨bj, 6, none⟩))) T 29 1073741823 rfl (fun _ _ _ _ _ => (Zrf (off := 6) rfl (T.e 0 rfl) (fun _ _ _ => by kernel_rfl))) ?_; clear T ac; intro ac T
 refine gq (v := (.pointer (some ⟨bj, 10, none⟩))) T 30 2147483647 rfl (fun _ _ _ _ _ => (Zrf (off := 4) rfl (T.e 0 rfl) (fun _ _ _ => by kernel_rfl))) ?_; clear T ac; intro ac T
 refine gw 31 4294967295 ?_; intro K hK
 refine Zos M T rfl rfl (T.e 0 rfl) (T.e 15 rfl) rfl .head rfl (by simp) rfl (by kernel_rfl) ?_; clear M T; intro wc ac M T
 refine Zso hK _ _ (MA.mk (fun h => (no_of (by kernel_rfl) h).elim) (M.mask [false] rfl)) ?_; clear hK K
 refine gq T 32 8589934591 rfl (fun _ _ _ _ _ => (rn_nil rfl (T.e 25 rfl))) ?_; clear T ac; intro ac T
 refine gq (v := (.pointer (some ⟨bj, 6, none⟩))) T 33 17179869183 rfl (fun _ _ _ _ _ => (Zrf (off := 6) rfl (T.e 0 rfl) (fun _ _ _ => by kernel_rfl))) ?_; clear T ac; intro ac T
 refine gq (v := (.pointer (some ⟨bj, 12, none⟩))) T 34 34359738367 rfl (fun _ _ _ _ _ => (Zrf (off := 6) rfl (T.e 0 rfl) (fun _ _ _ => by kernel_rfl))) ?_; clear T ac; intro ac T
 refine gw 35 68719476735 ?_; intro K hK
 refine Zos M T rfl rfl (T.e 0 rfl) (T.e 15 rfl) rfl .head rfl (by simp) rfl (by kernel_rfl) ?_; clear M T; intro wc ac M T
 refine Zso hK _ _ (MA.mk (fun h => (no_of (by kernel_rfl) h).elim) (M.mask [false] rfl)) ?_; clear hK K
 refine gq T 36 137438953471 rfl (fun _ _ _ _ _ => (rn_nil rfl (T.e 27 rfl))) ?_; clear T ac; intro ac T
 refine gq (v := (.pointer (some ⟨bj, 6, none⟩))) T 37 274877906943 rfl (fun _ _ _ _ _ => (Zrf (off := 6) rfl (T.e 0 rfl) (fun _ _ _ => by kernel_rfl))) ?_; clear T ac; intro ac T
 refine gq (v := (.pointer (some ⟨bj, 14, none⟩))) T 38 549755813887 rfl (fun _ _ _ _ _ => (Zrf (off := 8) rfl (T.e 0 rfl) (fun _ _ _ => by kernel_rfl))) ?_; clear T ac; intro ac T
 refine gw 39 1099511627775 ?_; intro K hK
 refine Zos M T rfl rfl (T.e 0 rfl) (T.e 15 rfl) rfl .head rfl (by simp) rfl (by kernel_rfl) ?_; clear M T; intro wc ac M T
 refine Zso hK _ _ (MA.mk (fun h => (no_of (by kernel_rfl) h).elim) (M.mask [false] rfl)) ?_; clear hK K
 refine Zgd (by kernel_rfl) ?_
 replace T := T.pick [] rfl
 refine nm_0 T rfl ?_
 exact ⟨rfl, M⟩
theorem take3_any (bj : Nat) (j : Jb) (A : Option Addr) (c : Nat) (X : Option Addr) (cx : Nat) (Y : Option Addr) (cy : Nat) (wi me : Int) (w : World) (hq : Bk w bj #[.int .i64 j.p0, .int .i64 j.p1, .int .i64 j.t0, .int .i64 j.t1, .int .i64 j.r0, .int .i64 j.r1, .int .i64 j.u0, .int .i64 j.u1, .int .i64 j.d0, .int .i64 j.d1, .int .i64 j.a0, .int .i64 j.a1, .int .i64 j.b0, .int .i64 j.b1, .int .i64 j.le, .slice A j.sh.length c, .int .i64 j.wi, .int .i64 j.me]) (hx : Rd w w.heap.size 2 X 0 (rc [])) (hxe : ∀ b o, X = some ⟨b, o, none⟩ → b ≠ bj) (hy : Rd w w.heap.size 1 Y 2 (ic [wi, me])) (hye : ∀ b o, Y = some ⟨b, o, none⟩ → b ≠ bj) :
  Calls Tryz.prog 126 #[.pointer (some ⟨bj, 0, none⟩), .slice X 0 cx, .slice Y 2 cy] w fun e w' => e = .returned (.tuple #[]) ∧ Mem w (fun b => b = bj) w' [(bj, .cells [.int .i64 j.p0, .int .i64 j.p1, .int .i64 j.t0, .int .i64 j.t1, .int .i64 j.r0, .int .i64 j.r1, .int .i64 j.u0, .int .i64 j.u1, .int .i64 j.d0, .int .i64 j.d1, .int .i64 j.a0, .int .i64 j.a1, .int .i64 j.b0, .int .i64 j.b1, .int .i64 j.le, .slice A j.sh.length c, .int .i64 wi, .int .i64 me])] := by
 obtain ⟨bX, oX, SX⟩ := Sp.oldEx hx hxe
 obtain ⟨bY, oY, SY⟩ := Sp.oldEx hy hye
 refine Zpx (fun b => b = bj) Tryz.func126 rfl 18 rfl [.pointer (some ⟨bj, 0, none⟩), .slice X 0 cx, .slice Y 2 cy] rfl rfl (Mem.initEx (p := .cells [.int .i64 j.p0, .int .i64 j.p1, .int .i64 j.t0, .int .i64 j.t1, .int .i64 j.r0, .int .i64 j.r1, .int .i64 j.u0, .int .i64 j.u1, .int .i64 j.d0, .int .i64 j.d1, .int .i64 j.a0, .int .i64 j.a1, .int .i64 j.b0, .int .i64 j.b1, .int .i64 j.le, .slice A j.sh.length c, .int .i64 j.wi, .int .i64 j.me]) hq) ?_
 intro ac wc T M
 refine Zgs M (M.perm [] rfl rfl) 14 (by kernel_rfl) rfl (by kernel_rfl) ?_
 clear M; intro wc M
 refine g_addG 10 M ?_
 refine gq T 0 1 rfl (fun _ _ _ _ _ => (Zrm rfl (T.e 0 rfl))) ?_; clear T ac; intro ac T
 refine gq T 1 3 rfl (fun _ _ _ _ _ => (Zrm rfl (T.e 1 rfl))) ?_; clear T ac; intro ac T
 refine gq T 2 7 rfl (fun _ _ _ _ _ => (Zrm rfl (T.e 4 rfl))) ?_; clear T ac; intro ac T
 refine gq T 3 15 rfl (fun _ _ _ _ _ => (Zri (size := 1) 0 rfl (T.e 0 rfl) evc ⟨_, Tryz.underlying31, by kernel_rfl⟩ rfl (by omega) (SY.at0 (by omega)))) ?_; clear T ac; intro ac T
 refine gq T 4 31 rfl (fun B w' hD hl hS => (rn_cell (Sp.ic0 SY (show Mem w (fun b => b = bj) w' _ from ((MA.lft hS) (hD.wait (i := 4) (m := 10) (by kernel_rfl) hl))) (Zz9 _) rfl) rfl (T.e 0 rfl))) ?_; clear T ac; intro ac T
 refine gq T 5 63 rfl (fun _ _ _ _ _ => (Zrm rfl (T.e 7 rfl))) ?_; clear T ac; intro ac T
 refine gq T 6 127 rfl (fun _ _ _ _ _ => (Zri (size := 1) 1 rfl (T.e 0 rfl) evc ⟨_, Tryz.underlying31, by kernel_rfl⟩ rfl (by omega) (SY.at0 (by omega)))) ?_; clear T ac; intro ac T
 refine gq T 7 255 rfl (fun B w' hD hl hS => (rn_cell (Sp.ic0 SY (show Mem w (fun b => b = bj) w' _ from ((MA.lft hS) (hD.wait (i := 7) (m := 10) (by kernel_rfl) hl))) (Zz9 _) rfl) rfl (T.e 0 rfl))) ?_; clear T ac; intro ac T
 refine gq T 8 511 rfl (fun _ _ _ _ _ => (rn_nil rfl (T.e 7 rfl))) ?_; clear T ac; intro ac T
 refine gq (v := (.pointer (some ⟨bj, 16, none⟩))) T 9 1023 rfl (fun _ _ _ _ _ => (Zrf (off := 16) rfl (T.e 0 rfl) (fun _ _ _ => by kernel_rfl))) ?_; clear T ac; intro ac T
 refine gw 10 2047 ?_; intro K hK
 refine Zos M T rfl rfl (T.e 0 rfl) (T.e 5 rfl) rfl .head rfl (by simp) rfl (by kernel_rfl) ?_; clear M T; intro wc ac M T
 refine Zso hK _ _ (MA.mk (fun h => (no_of (by kernel_rfl) h).elim) (M.mask [false] rfl)) ?_; clear hK K
 refine gq T 11 4095 rfl (fun _ _ _ _ _ => (rn_nil rfl (T.e 8 rfl))) ?_; clear T ac; intro ac T
 refine gq (v := (.pointer (some ⟨bj, 17, none⟩))) T 12 8191 rfl (fun _ _ _ _ _ => (Zrf (off := 17) rfl (T.e 0 rfl) (fun _ _ _ => by kernel_rfl))) ?_; clear T ac; intro ac T
 refine gw 13 16383 ?_; intro K hK
 refine Zos M T rfl rfl (T.e 0 rfl) (T.e 4 rfl) rfl .head rfl (by simp) rfl (by kernel_rfl) ?_; clear M T; intro wc ac M T
 refine Zso hK _ _ (MA.mk (fun h => (no_of (by kernel_rfl) h).elim) (M.mask [false] rfl)) ?_; clear hK K
 refine Zgd (by kernel_rfl) ?_
 replace T := T.pick [] rfl
 refine nm_0 T rfl ?_
 exact ⟨rfl, M⟩
theorem take2_any (bj : Nat) (j : Jb) (A : Option Addr) (c : Nat) (I0 : List (Nat × BA)) (exq : Nat → Prop) (X : Option Addr) (cx : Nat) (Y : Option Addr) (ny cy bX oX : Nat) (s0 s1 : Int) (w : World) (hj : j.sh.length ≤ 800000) (hsl : Sl 23 2 (.slice A j.sh.length c) j.sh.length (rc j.sh) I0) (SX : Sp w exq [] X 1 2 bX oX (rc [(s0, s1)])) (M0 : Mem w exq w ((bj, .cells [.int .i64 j.p0, .int .i64 j.p1, .int .i64 j.t0, .int .i64 j.t1, .int .i64 j.r0, .int .i64 j.r1, .int .i64 j.u0, .int .i64 j.u1, .int .i64 j.d0, .int .i64 j.d1, .int .i64 j.a0, .int .i64 j.a1, .int .i64 j.b0, .int .i64 j.b1, .int .i64 j.le, .slice A j.sh.length c, .int .i64 j.wi, .int .i64 j.me]) :: I0)) :
  Calls Tryz.prog 125 #[.pointer (some ⟨bj, 0, none⟩), .slice X 1 cx, .slice Y ny cy] w fun e w' => ∃ g cap, e = .returned (.tuple #[]) ∧ Mem w exq w' [(bj, .cells [.int .i64 j.p0, .int .i64 j.p1, .int .i64 j.t0, .int .i64 j.t1, .int .i64 j.r0, .int .i64 j.r1, .int .i64 j.u0, .int .i64 j.u1, .int .i64 j.d0, .int .i64 j.d1, .int .i64 j.a0, .int .i64 j.a1, .int .i64 j.b0, .int .i64 j.b1, .int .i64 j.le, .slice (some ⟨g, 0, none⟩) (j.sh.length + 1) cap, .int .i64 j.wi, .int .i64 j.me]), (g, .row 23 2 (j.sh.length + 1) (rc j.sh ++ rc [(s0, s1)]) cap)] := by
 refine Zpx exq Tryz.func125 rfl 18 rfl [.pointer (some ⟨bj, 0, none⟩), .slice X 1 cx, .slice Y ny cy] rfl rfl M0 ?_
 intro ac wc T M
 refine Zgs M (M.perm [] rfl rfl) 13 (by kernel_rfl) rfl (by kernel_rfl) ?_
 clear M; intro wc M
 refine g_addG 12 (M.perm [0] rfl rfl) ?_
 refine gq T 0 1 rfl (fun _ _ _ _ _ => (Zrm rfl (T.e 0 rfl))) ?_; clear T ac; intro ac T
 refine gq T 1 3 rfl (fun _ _ _ _ _ => (Zrm rfl (T.e 1 rfl))) ?_; clear T ac; intro ac T
 refine gq T 2 7 rfl (fun _ _ _ _ _ => (rn_nil rfl (T.e 0 rfl))) ?_; clear T ac; intro ac T
 refine gq (v := (.pointer (some ⟨bj, 15, none⟩))) T 3 15 rfl (fun _ _ _ _ _ => (Zrf (off := 15) rfl (T.e 0 rfl) (fun _ _ _ => by kernel_rfl))) ?_; clear T ac; intro ac T
 refine gq T 4 31 rfl (fun B w' hD hl hS => (Zro (Mem.nth (show Mem w exq w' _ from ((MA.lft hS) (hD.wait (i := 4) (m := 12) (by kernel_rfl) hl))) 0 rfl) rfl (T.e 0 rfl) rfl)) ?_; clear T ac; intro ac T
 refine gq T 5 63 rfl (fun _ _ _ _ _ => (Zrm rfl (T.e 6 rfl))) ?_; clear T ac; intro ac T
 refine gq T 6 127 rfl (fun _ _ _ _ _ => (Zri (size := 2) 0 rfl (T.e 0 rfl) evc ⟨_, Tryz.underlying28, by kernel_rfl⟩ rfl (by omega) (SX.at0 (by omega)))) ?_; clear T ac; intro ac T
 refine gq (v := (.agg #[.int .i64 s0, .int .i64 s1])) T 7 255 rfl (fun B w' hD hl hS => (rn_rowat (Sp.rcR SX (show Mem w exq w' _ from ((MA.lft hS) (hD.wait (i := 7) (m := 12) (by kernel_rfl) hl))) (Zz9 _) rfl) rfl (T.e 0 rfl) rfl)) ?_; clear T ac; intro ac T
 refine gw 8 511 ?_; intro K hK
 refine ow_bs (e := 23) [.int .i64 s0, .int .i64 s1] M T rfl rfl rfl rfl (.cons (T.e 0 rfl) .nil) (fun _ => by kernel_rfl) ?_; clear M T; intro g1 wc ac M T
 refine Zso hK _ _ (MA.mk (fun _ => M.perm [1] rfl rfl) (M.perm [] rfl rfl)) ?_; clear hK K
 refine gw 9 1023 ?_; intro K hK
 refine ow_app ([(g1, .cells [.int .i64 s0, .int .i64 s1]), (bj, .cells (jobL j A c))]) Tryz.info23 hsl M (by first | rfl | simp) T rfl rfl rfl rfl Tryz.underlying28 rfl rfl rfl (by omega) (T.e 4 rfl) (T.e 0 rfl) (Zne (i := 0) rfl) rfl rfl ?_; clear M T; intro ga1 cga1 wc ac M T
 refine Zso hK _ _ (MA.mk (fun _ => M.mask [false, false, true] rfl) (M.mask [false, false, false] rfl)) ?_; clear hK K
 refine gq T 10 2047 rfl (fun _ _ _ _ _ => (rn_nil rfl (T.e 9 rfl))) ?_; clear T ac; intro ac T
 refine gq (v := (.pointer (some ⟨bj, 15, none⟩))) T 11 4095 rfl (fun _ _ _ _ _ => (Zrf (off := 15) rfl (T.e 0 rfl) (fun _ _ _ => by kernel_rfl))) ?_; clear T ac; intro ac T
 refine gw 12 8191 ?_; intro K hK
 refine Zos M T rfl rfl (T.e 0 rfl) (T.e 2 rfl) rfl (.tail (.tail .head)) rfl (by simp) rfl (by kernel_rfl) ?_; clear M T; intro wc ac M T
 refine Zso hK _ _ (MA.mk (fun h => (no_of (by kernel_rfl) h).elim) (M.mask [false, false, false] rfl)) ?_; clear hK K
 refine Zgd (by kernel_rfl) ?_
 replace T := T.pick [] rfl
 replace M := M.mask [true, false, true] rfl
 refine nm_0 T rfl ?_
 exact ⟨ga1, _, rfl, M.permT [1, 0] 2 rfl rfl rfl rfl⟩
def flatR (xs : List (Int × Int)) : List Int := xs.flatMap fun p => [p.1, p.2]
theorem flatR_snoc (xs : List (Int × Int)) (a b : Int) : flatR (xs ++ [(a, b)]) = flatR xs ++ [a, b] := by simp [flatR]
theorem st_map (l : List (List UInt8)) : st l = l.map fun p => sv p := by
 unfold st
 induction l with
 | nil => rfl
 | cons a l ih => rw [List.flatMap_cons, ih]; rfl
theorem st_part (l : List (List UInt8)) (k h : Nat) : ((st l).drop (k * 1)).take ((h - k) * 1) = st ((l.drop k).take (h - k)) := by
 rw [Nat.mul_one, Nat.mul_one, st_map, st_map, List.map_take, List.map_drop]
theorem wordsP_step {ls : List (List UInt8)} {R i : Nat} {p : List UInt8} (h : ls[i]? = some p) : wordsA (R - i) (ls.drop i) = andR (wordP (decide (i < R)) p) (wordsA (R - (i + 1)) (ls.drop (i + 1))) := by
 rw [List.drop_eq_getElem_cons (List.getElem?_eq_some_iff.1 h).1, (List.getElem?_eq_some_iff.1 h).2]
 by_cases hi : i < R
 ·rw [show R - i = (R - (i + 1)) + 1 by omega, Zdt hi]
  rfl
 ·rw [show R - i = 0 by omega, show R - (i + 1) = 0 by omega, Zdf hi]
  rfl
theorem andR_put (xs ys : List Int) (o : Option (List Int)) : andR (some xs) (andR (some ys) o) = andR (some (xs ++ ys)) o := by
 cases o <;> simp [andR]
theorem word_num {p : List UInt8} {n : Int} (h : numP p = some n) : wordP false p = some [n] := by
 unfold wordP
 rw [h]
 rfl
theorem word_bad {p : List UInt8} (h : numP p = none) : wordP false p = none := by
 unfold wordP
 rw [h]
 rfl
theorem word_rg {p : List UInt8} {a b : Int} (h1 : (Lib.cut p [58]).2.2 = true) (h2 : numP (Lib.cut p [58]).1 = some a) (h3 : numP (Lib.cut p [58]).2.1 = some b) : wordP true p = some [a, b] := by
 unfold wordP rangeP
 rw [if_pos rfl, if_pos h1, h2, h3]
theorem word_norg {p : List UInt8} (h : (!(Lib.cut p [58]).2.2 || !(numP (Lib.cut p [58]).1).isSome || !(numP (Lib.cut p [58]).2.1).isSome) = true) : wordP true p = none := by
 unfold wordP rangeP
 rw [if_pos rfl]
 split
 ·next h1 =>
  cases h2 : numP (Lib.cut p [58]).1 with
  | none => rfl
  | some a =>
   cases h3 : numP (Lib.cut p [58]).2.1 with
   | none => rfl
   | some b => rw [h1, h2, h3] at h; cases h
 ·rfl
theorem lineA_prog {word s w0 : List UInt8} {R N : Nat} (h : (spl 32 s)[0]? = some w0) (hw : w0 = word) (hl : (spl 32 s).length = 1 + R + N) : lineA word R N s = wordsA R ((spl 32 s).drop 1) := by
 rw [lineA_at h, if_pos ⟨hw, hl⟩]
theorem lineA_no {word s w0 : List UInt8} {R N : Nat} (h : (spl 32 s)[0]? = some w0) (hb : ¬ (w0 = word ∧ (spl 32 s).length = 1 + R + N)) : lineA word R N s = none := by
 rw [lineA_at h, if_neg hb]
theorem cut_len (s : List UInt8) : (Lib.cut s [58]).1.length ≤ s.length ∧ (Lib.cut s [58]).2.1.length ≤ s.length := by
 rcases cut_spl 58 s with ⟨-, e, -⟩ | ⟨a, r, -, rfl, e, -⟩
 · rw [e]; exact ⟨Nat.le_refl _, Nat.zero_le _⟩
 · rw [e]; simp only [List.length_append, List.length_cons]; exact ⟨by omega, by omega⟩
theorem word_rgok {p : List UInt8} {a b : Int} (h : (!(Lib.cut p [58]).2.2 || (!(numP (Lib.cut p [58]).1).isSome || !(numP (Lib.cut p [58]).2.1).isSome)) = false) (h1 : ∀ v, numP (Lib.cut p [58]).1 = some v → a = v) (h2 : ∀ v, numP (Lib.cut p [58]).2.1 = some v → b = v) : wordP true p = some [a, b] := by
 simp only [Bool.or_eq_false_iff, Bool.not_eq_false'] at h
 obtain ⟨h3, h4, h5⟩ := h
 cases e1 : numP (Lib.cut p [58]).1 with
 | none => rw [e1] at h4; cases h4
 | some x =>
  cases e2 : numP (Lib.cut p [58]).2.1 with
  | none => rw [e2] at h5; cases h5
  | some y =>
   obtain rfl := h1 x e1
   obtain rfl := h2 y e2
   exact word_rg h3 e1 e2
theorem st_length2 (l : List (List UInt8)) : (st l).length = l.length := by rw [st_map, List.length_map]
theorem row_sp {w : World} {ex : Nat → Prop} {g : Nat} (l : List (List UInt8)) : Sp w ex [(g, .cells (st l))] (some ⟨g, 0, none⟩) l.length 1 g 0 (st l) := Sp.cells (by rw [st_length2]; omega)
theorem word_norg2 {p : List UInt8} (h : (!(Lib.cut p [58]).2.2 || (!(numP (Lib.cut p [58]).1).isSome || !(numP (Lib.cut p [58]).2.1).isSome)) = true) : wordP true p = none := word_norg (by rw [Bool.or_assoc]; exact h)
theorem andR_zero (o : Option (List Int)) : andR (some (flatR [])) o = o := by cases o <;> rfl
def SplP (l : List (List UInt8)) (w : World) (e : Ending) (w' : World) : Prop := ∃ (A : Option Addr) (c b o : Nat) (I : List (Nat × BA)), e = .returned (.slice A l.length c) ∧ l.length ≤ c ∧ (∀ (w : World) (ex : Nat → Prop), Sp w ex I A l.length 1 b o (st l)) ∧ Mem w noEx w' I
theorem Split2_any (s : List UInt8) (c : UInt8) (w : World) (hs : s.length ≤ 1000000) (hT : StrW w) : Calls Tryz.prog 52 #[sv s, sv [c]] w (SplP (spl c s) w) := by
 refine (Split_any s c w hs hT).mono fun e w' h => ?_
 obtain ⟨g, rfl, M⟩ := h
 exact ⟨_, _, g, 0, _, rfl, Nat.le_refl _, fun _ _ => row_sp _, M⟩
def KeptJ (bj : Nat) (j : Jb) (L : List (Nat × BA)) : Prop := ∃ A c I, L = (bj, .cells (jobL j A c)) :: I ∧ Sl 23 2 (.slice A j.sh.length c) j.sh.length (rc j.sh) I
def putO (k : Nat) (o : Option (List Int)) (j : Jb) : Jb := match o with
 | none => j
 | some x => putK k x j
def LineP (o : Option (List Int)) (w : World) (exq : Nat → Prop) (bj k : Nat) (j : Jb) (e : Ending) (w' : World) : Prop := e = .returned (.bool o.isSome) ∧ ∃ L, Mem w exq w' L ∧ KeptJ bj (putO k o j) L
theorem LineP.none {o : Option (List Int)} {w w' : World} {exq : Nat → Prop} {bj k : Nat} {j : Jb} {L : List (Nat × BA)} (h : o = .none) (M : Mem w exq w' L) (hk : KeptJ bj j L) : LineP o w exq bj k j (.returned (.bool false)) w' := by
 subst h
 exact ⟨rfl, L, M, hk⟩
theorem len3 {xs : List (Int × Int)} (h : xs.length = 3) : ∃ a b c d e f, xs = [(a, b), (c, d), (e, f)] := by
 match xs, h with
 | [(a, b), (c, d), (e, f)], _ => exact ⟨a, b, c, d, e, f, rfl⟩
theorem Sl.ne {w0 w : World} {ex : Nat → Prop} {e size n c g : Nat} {A : Option Addr} {xs : List Value} {I : List (Nat × BA)} {q : BA} (h : Sl e size (.slice A n c) n xs I) (M : Mem w0 ex w ((g, q) :: I)) : ∀ b o, A = some ⟨b, o, none⟩ → b ≠ g := by
 intro b o hA hb
 rcases h with ⟨h1, -, -, -⟩ | ⟨g2, cap, h1, rfl⟩
 ·injection h1 with h1; rw [hA] at h1; cases h1
 ·injection h1 with h1
  rw [hA] at h1
  injection h1 with h1
  injection h1 with h1
  have := M.nd
  subst hb
  subst h1
  simp at this
theorem read0_any (s : List UInt8) (bj : Nat) (j : Jb) (A : Option Addr) (c : Nat) (I0 : List (Nat × BA)) (exq : Nat → Prop) (w : World) (hs : s.length ≤ 800000) (hT : ∀ wc L, Mem w exq wc L → StrW wc) (hsl : Sl 23 2 (.slice A j.sh.length c) j.sh.length (rc j.sh) I0) (M0 : Mem w exq w ((bj, .cells [.int .i64 j.p0, .int .i64 j.p1, .int .i64 j.t0, .int .i64 j.t1, .int .i64 j.r0, .int .i64 j.r1, .int .i64 j.u0, .int .i64 j.u1, .int .i64 j.d0, .int .i64 j.d1, .int .i64 j.a0, .int .i64 j.a1, .int .i64 j.b0, .int .i64 j.b1, .int .i64 j.le, .slice A j.sh.length c, .int .i64 j.wi, .int .i64 j.me]) :: I0)) :
   Calls Tryz.prog 55 #[.agg #[sv tongueW, .int .i64 3, .int .i64 0, .func (.func 123) #[] #[]], .pointer (some ⟨bj, 0, none⟩), sv s] w (LineP (lineA tongueW 3 0 s) w exq bj 0 j) := by
 refine Zpx exq Tryz.func55 rfl 102 rfl [.agg #[sv tongueW, .int .i64 3, .int .i64 0, .func (.func 123) #[] #[]], .pointer (some ⟨bj, 0, none⟩), sv s] rfl rfl M0 ?_
 intro ac wc T M
 refine Zsr ?_
 refine Zl2 ?_
 refine Zob M T rfl rfl rfl rfl (T.e 0 rfl) rfl ?_; clear M T; intro g1 wc ac M T
 refine lq T (Zra rfl evc) ?_; clear T ac; intro ac T
 replace T := T.pick [1, 3, 4] rfl
 refine Zln ?_
 refine Zsr ?_
 refine lq T (Zrm rfl (T.e 2 rfl)) ?_; clear T ac; intro ac T
 refine Zl2 ?_
 refine Zoc (first := []) (cap := []) T rfl rfl rfl rfl evf (.cons (T.e 0 rfl) (.cons evc .nil)) Tryz.func52 rfl rfl ?_
 refine Calls.mono (Split2_any s 32 _ (by omega) (hT _ _ M)) ?_
 clear T; rintro e wc ⟨Au1, cu1, bu1, ou1, Iu1, rfl, hc9u1, SVu1, N⟩ ac T
 obtain ⟨lsu1, hlsu1⟩ : ∃ q, q = spl 32 s := ⟨_, rfl⟩
 rw [← hlsu1] at hc9u1 SVu1 T
 have Su1 := SVu1 w exq
 replace M := (M.join N).swapI
 clear N
 replace M : Mem w exq wc ((g1, .cells [sv tongueW, .int .i64 3, .int .i64 0, .func (.func 123) #[] #[]]) :: (bj, .cells (jobL j A c)) :: (I0 ++ Iu1)) := M
 have hlenu1 : lsu1.length ≤ s.length + 1 := by rw [hlsu1]; exact spl_len _ _
 have hposu1 : 0 < lsu1.length := by rw [hlsu1]; exact spl_pos _ _
 obtain ⟨w0u1, hzu1⟩ : ∃ q, lsu1[0]? = some q := ⟨_, List.getElem?_eq_getElem hposu1⟩
 refine lq T (Zra rfl (T.e 0 rfl)) ?_; clear T ac; intro ac T
 replace T := T.pick [0, 3, 4] rfl
 refine Zln ?_
 refine wp_seq ?_
 refine cut_seq (fun ac wc => Tm ac 102 [(1, .pointer (some ⟨bj, 0, none⟩)), (3, .pointer (some ⟨g1, 0, none⟩)), (7, .slice Au1 lsu1.length cu1), (39, .bool ((!(decide (w0u1 = tongueW))) || (!(decide (((lsu1.length : Nat) : Int) = 4)))))] ∧ Mem w exq wc ((g1, .cells [sv tongueW, .int .i64 3, .int .i64 0, .func (.func 123) #[] #[]]) :: (bj, .cells (jobL j A c)) :: (I0 ++ Iu1))) ?_ ?_
 ·refine Zgs M (M.mask [true, true] rfl) 17 (by kernel_rfl) rfl (by kernel_rfl) ?_
  clear M; intro wc M
  refine gq T 0 1 rfl (fun _ _ _ _ _ => (Zrm rfl (T.e 0 rfl))) ?_; clear T ac; intro ac T
  refine gq T 1 3 rfl (fun _ _ _ _ _ => (Zri (size := 1) 0 rfl (T.e 0 rfl) evc ⟨_, Tryz.underlying37, by kernel_rfl⟩ rfl (by omega) (Su1.at0 (by omega)))) ?_; clear T ac; intro ac T
  refine gq T 2 7 rfl (fun B w' hD hl hS => (rn_cell (Sp.stC0 Su1 (show Mem w exq w' _ from hS) (.cons _ (.cons _ (Zsq _ _))) hzu1) rfl (T.e 0 rfl))) ?_; clear T ac; intro ac T
  refine gq (v := (.pointer (some ⟨g1, 0, none⟩))) T 3 15 rfl (fun _ _ _ _ _ => (Zrf (off := 0) rfl (T.e 4 rfl) (fun _ _ _ => by kernel_rfl))) ?_; clear T ac; intro ac T
  refine gq T 4 31 rfl (fun B w' hD hl hS => (Zro (Mem.nth (show Mem w exq w' _ from hS) 0 rfl) rfl (T.e 0 rfl) rfl)) ?_; clear T ac; intro ac T
  refine gq T 5 63 rfl (fun _ _ _ _ _ => (rn_sneq rfl (T.e 2 rfl) (T.e 0 rfl))) ?_; clear T ac; intro ac T
  refine gq T 6 127 rfl (fun _ _ _ _ _ => (Zrm rfl (T.e 0 rfl))) ?_; clear T ac; intro ac T
  rcases Bool.eq_false_or_eq_true (!(decide (w0u1 = tongueW))) with h1 | h1
  ·replace h1 : ¬ (w0u1 = tongueW) := by first | (rw [Bool.not_eq_true'] at h1; exact of_decide_eq_false h1) | simpa using h1
   refine g_pass (T := T) (i := 7) rfl (by kernel_rfl) (by kernel_rfl : (Zpb 17 127).setIfInBounds 7 true = Zpb 17 255) si_U (fun _ _ _ h => h) (Zwn rfl rfl (T.e 0 rfl) (by simp [h1])) rfl rfl rfl ?_; clear T ac; intro ac T
   refine g_pass (T := T) (i := 8) rfl (by kernel_rfl) (by kernel_rfl : (Zpb 17 255).setIfInBounds 8 true = Zpb 17 511) si_U (fun _ _ _ h => h) (Zwn rfl rfl (T.e 1 rfl) (by simp [h1])) rfl rfl rfl ?_; clear T ac; intro ac T
   refine g_pass (T := T) (i := 9) rfl (by kernel_rfl) (by kernel_rfl : (Zpb 17 511).setIfInBounds 9 true = Zpb 17 1023) si_U (fun _ _ _ h => h) (Zwn rfl rfl (T.e 2 rfl) (by simp [h1])) rfl rfl rfl ?_; clear T ac; intro ac T
   refine g_pass (T := T) (i := 10) rfl (by kernel_rfl) (by kernel_rfl : (Zpb 17 1023).setIfInBounds 10 true = Zpb 17 2047) si_U (fun _ _ _ h => h) (Zwn rfl rfl (T.e 3 rfl) (by simp [h1])) rfl rfl rfl ?_; clear T ac; intro ac T
   refine g_pass (T := T) (i := 11) rfl (by kernel_rfl) (by kernel_rfl : (Zpb 17 2047).setIfInBounds 11 true = Zpb 17 4095) si_U (fun _ _ _ h => h) (Zwn rfl rfl (T.e 4 rfl) (by simp [h1])) rfl rfl rfl ?_; clear T ac; intro ac T
   refine g_pass (T := T) (i := 12) rfl (by kernel_rfl) (by kernel_rfl : (Zpb 17 4095).setIfInBounds 12 true = Zpb 17 8191) si_U (fun _ _ _ h => h) (Zwn rfl rfl (T.e 5 rfl) (by simp [h1])) rfl rfl rfl ?_; clear T ac; intro ac T
   refine g_pass (T := T) (i := 13) rfl (by kernel_rfl) (by kernel_rfl : (Zpb 17 8191).setIfInBounds 13 true = Zpb 17 16383) si_U (fun _ _ _ h => h) (Zwn rfl rfl (T.e 6 rfl) (by simp [h1])) rfl rfl rfl ?_; clear T ac; intro ac T
   refine g_pass (T := T) (i := 14) rfl (by kernel_rfl) (by kernel_rfl : (Zpb 17 16383).setIfInBounds 14 true = Zpb 17 32767) si_U (fun _ _ _ h => h) (Zwn rfl rfl (T.e 7 rfl) (by simp [h1])) rfl rfl rfl ?_; clear T ac; intro ac T
   refine g_pass (T := T) (i := 15) rfl (by kernel_rfl) (by kernel_rfl : (Zpb 17 32767).setIfInBounds 15 true = Zpb 17 65535) si_U (fun _ _ _ h => h) (Zwn rfl rfl (T.e 8 rfl) (by simp [h1])) rfl rfl rfl ?_; clear T ac; intro ac T
   refine gq T 16 131071 rfl (fun _ _ _ _ _ => (Zr1 rfl (T.e 9 rfl) (by simp [h1]) evc)) ?_; clear T ac; intro ac T
   refine Zgd (by kernel_rfl) ?_
   replace T := T.pick [0, 17, 18, 19] rfl
   exact ⟨(T.pick (E' := [(1, .pointer (some ⟨bj, 0, none⟩)), (3, .pointer (some ⟨g1, 0, none⟩)), (7, .slice Au1 lsu1.length cu1), (39, .bool true)]) [3, 2, 1, 0] rfl).as (by (try rw [show (!(decide (w0u1 = tongueW))) = true from (by simp [h1])]); (try rfl)), M.mask [true, true] rfl⟩
  replace h1 : w0u1 = tongueW := by first | (rw [Bool.not_eq_false'] at h1; exact of_decide_eq_true h1) | simpa using h1
  refine g_q (T := T) (i := 7) rfl (by kernel_rfl) (by kernel_rfl : (Zpb 17 127).setIfInBounds 7 true = Zpb 17 255) si_U (fun _ _ _ h => h) (Zwy rfl rfl (T.e 0 rfl) (by simp [h1])) rfl rfl rfl (fun _ _ _ _ _ => (Zrm rfl (T.e 7 rfl))) ?_; clear T ac; intro ac T
  refine g_q (T := T) (i := 8) rfl (by kernel_rfl) (by kernel_rfl : (Zpb 17 255).setIfInBounds 8 true = Zpb 17 511) si_U (fun _ _ _ h => h) (Zwy rfl rfl (T.e 1 rfl) (by simp [h1])) rfl rfl rfl (fun _ _ _ _ _ => (Zrl rfl Tryz.underlying37 (T.e 0 rfl))) ?_; clear T ac; intro ac T
  refine g_q (v := (.pointer (some ⟨g1, 1, none⟩))) (T := T) (i := 9) rfl (by kernel_rfl) (by kernel_rfl : (Zpb 17 511).setIfInBounds 9 true = Zpb 17 1023) si_U (fun _ _ _ h => h) (Zwy rfl rfl (T.e 2 rfl) (by simp [h1])) rfl rfl rfl (fun _ _ _ _ _ => (Zrf (off := 1) rfl (T.e 10 rfl) (fun _ _ _ => by kernel_rfl))) ?_; clear T ac; intro ac T
  refine g_q (T := T) (i := 10) rfl (by kernel_rfl) (by kernel_rfl : (Zpb 17 1023).setIfInBounds 10 true = Zpb 17 2047) si_U (fun _ _ _ h => h) (Zwy rfl rfl (T.e 3 rfl) (by simp [h1])) rfl rfl rfl (fun B w' hD hl hS => (Zro (Mem.nth (show Mem w exq w' _ from hS) 0 rfl) rfl (T.e 0 rfl) rfl)) ?_; clear T ac; intro ac T
  refine g_q (v := (.int .i64 4)) (T := T) (i := 11) rfl (by kernel_rfl) (by kernel_rfl : (Zpb 17 2047).setIfInBounds 11 true = Zpb 17 4095) si_U (fun _ _ _ h => h) (Zwy rfl rfl (T.e 4 rfl) (by simp [h1])) rfl rfl rfl (fun _ _ _ _ _ => (rn_ofI (rn_add rfl evc (T.e 0 rfl) (by omega)) (by rfl))) ?_; clear T ac; intro ac T
  refine g_q (v := (.pointer (some ⟨g1, 2, none⟩))) (T := T) (i := 12) rfl (by kernel_rfl) (by kernel_rfl : (Zpb 17 4095).setIfInBounds 12 true = Zpb 17 8191) si_U (fun _ _ _ h => h) (Zwy rfl rfl (T.e 5 rfl) (by simp [h1])) rfl rfl rfl (fun _ _ _ _ _ => (Zrf (off := 2) rfl (T.e 13 rfl) (fun _ _ _ => by kernel_rfl))) ?_; clear T ac; intro ac T
  refine g_q (T := T) (i := 13) rfl (by kernel_rfl) (by kernel_rfl : (Zpb 17 8191).setIfInBounds 13 true = Zpb 17 16383) si_U (fun _ _ _ h => h) (Zwy rfl rfl (T.e 6 rfl) (by simp [h1])) rfl rfl rfl (fun B w' hD hl hS => (Zro (Mem.nth (show Mem w exq w' _ from hS) 0 rfl) rfl (T.e 0 rfl) rfl)) ?_; clear T ac; intro ac T
  refine g_q (v := (.int .i64 4)) (T := T) (i := 14) rfl (by kernel_rfl) (by kernel_rfl : (Zpb 17 16383).setIfInBounds 14 true = Zpb 17 32767) si_U (fun _ _ _ h => h) (Zwy rfl rfl (T.e 7 rfl) (by simp [h1])) rfl rfl rfl (fun _ _ _ _ _ => (rn_ofI (rn_add rfl (T.e 2 rfl) (T.e 0 rfl) (by omega)) (by rfl))) ?_; clear T ac; intro ac T
  refine g_q (T := T) (i := 15) rfl (by kernel_rfl) (by kernel_rfl : (Zpb 17 32767).setIfInBounds 15 true = Zpb 17 65535) si_U (fun _ _ _ h => h) (Zwy rfl rfl (T.e 8 rfl) (by simp [h1])) rfl rfl rfl (fun _ _ _ _ _ => (rn_neq rfl (T.e 6 rfl) (T.e 0 rfl))) ?_; clear T ac; intro ac T
  refine gq T 16 131071 rfl (fun _ _ _ _ _ => (Zr0 rfl (T.e 9 rfl) (by simp [h1]) (T.e 0 rfl))) ?_; clear T ac; intro ac T
  refine Zgd (by kernel_rfl) ?_
  replace T := T.pick [0, 17, 18, 19] rfl
  exact ⟨(T.pick (E' := [(1, .pointer (some ⟨bj, 0, none⟩)), (3, .pointer (some ⟨g1, 0, none⟩)), (7, .slice Au1 lsu1.length cu1), (39, .bool (!(decide (((lsu1.length : Nat) : Int) = 4))))]) [3, 2, 1, 0] rfl).as (by (try rw [show (!(decide (w0u1 = tongueW))) = false from (by simp [h1])]); (try rfl)), M.mask [true, true] rfl⟩
 clear T M
 rintro ac wc ⟨T, M⟩
 refine wp_cond_split (T.e 3 rfl) ?_ ?_
 ·intro h2
  (have h2' := h2; try simp only [Zb1, Zb2, Zb3, Zb4, Zb5, Zb6, Zb7] at h2')
  refine Zsr ?_
  refine lq T (Zra rfl evc) ?_; clear T ac; intro ac T
  refine wpList_nil ?_
  replace T := T.pick [0] rfl
  replace M := M.mask [false, true] rfl
  refine Znr ?_
  refine Zrt ?_
  refine rt_1 T rfl (T.e 0 rfl) ?_
  have hno : (lineA tongueW 3 0 s) = none := by
    refine lineA_no (w0 := w0u1) (by rw [← hlsu1]; exact hzu1) ?_
    rintro ⟨h8, h9⟩
    rw [← hlsu1] at h9
    exact cond_bad (a := w0u1) (w := tongueW) (x := ((lsu1.length : Nat) : Int)) (y := 4) (by assumption) ⟨h8, by omega⟩
  exact LineP.none (L := (bj, .cells (jobL j A c)) :: I0) hno ((show Mem w exq wc ((bj, .cells (jobL j A c)) :: (I0 ++ Iu1)) from M.permT [0] 1 rfl rfl rfl rfl).sub (List.Sublist.cons_cons _ (subL (List.Sublist.refl _)))) ⟨A, c, I0, rfl, hsl⟩
 intro h2
 (have h2' := h2; try simp only [Zb1, Zb2, Zb3, Zb4, Zb5, Zb6, Zb7] at h2')
 refine Zsk ?_
 refine Zsr ?_
 refine lq T (Zra rfl evc) ?_; clear T ac; intro ac T
 replace T := T.pick [0, 1, 2, 3] rfl
 refine Zln ?_
 refine Zsr ?_
 refine lq T (Zra rfl evc) ?_; clear T ac; intro ac T
 refine Zln ?_
 refine wp_seq ?_
 refine Zsr ?_
 refine Zg2 T (Zq (Zrm rfl (T.e 4 rfl))) rfl (fun _ T => Zq (rn_slice (size := 1) (l := 1) (h := lsu1.length) rfl Tryz.underlying37 (by kernel_rfl) (T.e 0 rfl) evc rfl (by omega) (by omega))) rfl ?_; clear T ac; intro ac T
 obtain ⟨Aq1, hAq1⟩ : ∃ q : Option Addr, q = (if cu1 = 1 then Au1 else Option.map (fun x : Addr => x.add (1 * 1)) Au1) := ⟨_, rfl⟩
 rw [← hAq1] at T
 obtain ⟨lq1, hlq1⟩ : ∃ q, q = (lsu1.drop 1).take (lsu1.length - 1) := ⟨_, rfl⟩
 have nlq1 : lq1.length = lsu1.length - 1 := by rw [hlq1, List.length_take, List.length_drop]; (try simp only [List.length_cons, List.length_append, List.length_nil]); omega
 rw [← nlq1] at T
 have SAq1 : Sp w exq Iu1 Aq1 lq1.length 1 bu1 (ou1 + 1 * 1) (st lq1) := by rw [nlq1, hAq1, hlq1, ← st_part]; exact Su1.sub (by omega) (by omega) (by omega)
 refine Zg2 T (Zq (Zrl rfl Tryz.underlying37 (T.e 0 rfl))) rfl (fun _ T => Zq (Zrm rfl evc)) rfl ?_; clear T ac; intro ac T
 replace T := T.pick [0, 1, 2, 4, 5, 6, 7] rfl
 refine Zln ?_
 refine wp_block ?_
 have hcond := cond_ok (a := w0u1) (w := tongueW) (x := ((lsu1.length : Nat) : Int)) (y := 4) (by assumption)
 replace hcond : w0u1 = tongueW ∧ lsu1.length = 1 + 3 + 0 := ⟨hcond.1, by have := hcond.2; omega⟩
 refine wp_loop_n (fun mz ac wc => ∃ (i : Nat) (xs : List (Int × Int)) (At : Option Addr) (ct : Nat) (It : List (Nat × BA)), mz = 3 - i ∧ (i ≤ 3) ∧ ((lineA tongueW 3 0 s) = andR (some (flatR xs)) (wordsA (3 - i) ((lsu1.drop 1).drop i))) ∧ (Sl 23 2 (.slice At xs.length ct) xs.length (rc xs) It) ∧ (xs.length = i) ∧ Tm ac 102 [(1, .pointer (some ⟨bj, 0, none⟩)), (3, .pointer (some ⟨g1, 0, none⟩)), (8, .slice At xs.length ct), (9, .slice none 0 0), (41, .slice Aq1 lq1.length (cu1 - 1)), (42, .int .i64 ((lq1.length : Nat) : Int)), (43, .int .i64 (i : Int))] ∧ Mem w exq wc ((g1, .cells [sv tongueW, .int .i64 3, .int .i64 0, .func (.func 123) #[] #[]]) :: (bj, .cells (jobL j A c)) :: (I0 ++ Iu1 ++ It))) ?_ ?_
 ·exact ⟨_, 0, [], none, 0, [], rfl, (by omega), (by rw [hlsu1, lineA_prog (by rw [← hlsu1]; exact hzu1) hcond.1 (by rw [← hlsu1]; exact hcond.2)]; exact (andR_zero _).symm), (Sl.nil _ _), rfl, T.pick [5, 6, 4, 3, 2, 1, 0] rfl, (by simp only [List.append_nil]; exact M)⟩
 clear T M
 rintro mz ac wc ⟨i, xs, At, ct, It, hmm1, hi, H, hslx, hxl, T, M⟩
 refine Zsr ?_
 refine lq T (rn_lss rfl (T.e 6 rfl) (T.e 5 rfl)) ?_; clear T ac; intro ac T
 refine Zln ?_
 refine wp_seq ?_
 refine wp_if (T.e 0 rfl) ?_ ?_
 ·intro h3
  have hq9 : lq1 = lsu1.drop 1 := by rw [hlq1]; exact List.take_of_length_le (by rw [List.length_drop]; exact Nat.le_refl _)
  obtain ⟨p, hkp⟩ : ∃ q, lq1[i]? = some q := ⟨_, List.getElem?_eq_getElem (by omega)⟩
  have hkq : (lsu1.drop 1)[i]? = some p := by rw [← hq9]; exact hkp
  have hpl : p.length ≤ s.length := spl_mem_len (c := 32) (by rw [← hlsu1]; exact List.mem_of_mem_drop (List.mem_of_getElem? hkq))
  rw [wordsP_step (R := 3) hkq] at H
  refine Zsk ?_
  refine wp_seq ?_
  refine wp_block ?_
  refine Zsr ?_
  refine Zg5 T (Zq (Zrm rfl (T.e 7 rfl))) rfl (fun _ T => Zq (Zri (size := 1) i rfl (T.e 6 rfl) (T.e 8 rfl) ⟨_, Tryz.underlying37, by kernel_rfl⟩ rfl (by omega) (SAq1.at0 (by omega)))) rfl (fun _ T => Zq (rn_cell (Sp.stC0 SAq1 M (.cons _ (.cons _ (subL (Zsq _ _)))) hkp) rfl (T.e 0 rfl))) rfl (Za 2 rfl rfl) rfl (Za 1 rfl rfl) rfl ?_; clear T ac; intro ac T
  replace T := T.pick [0, 1, 6, 7, 8, 9, 10, 11, 12] rfl
  refine Zln ?_
  refine wp_seq ?_
  refine Zsr ?_
  refine Zg4 (v2 := (.pointer (some ⟨g1, 1, none⟩))) T (Zq (Zrm rfl (T.e 1 rfl))) rfl (Zf 1 4 rfl rfl) rfl (Zo M 0 0 rfl rfl rfl rfl) rfl (fun _ T => Zq (rn_geq rfl (T.e 2 rfl) (T.e 0 rfl))) rfl ?_; clear T ac; intro ac T
  replace T := T.pick [0, 4, 6, 7, 8, 9, 10, 11, 12] rfl
  refine Zln ?_
  refine wp_if (T.e 0 rfl) ?_ ?_
  ·intro h4
   exfalso
   omega
  intro h4
  refine Zsk ?_
  refine Zsr ?_
  refine lq T (Zrm rfl (T.e 1 rfl)) ?_; clear T ac; intro ac T
  refine Zl2 ?_
  refine Zoc (first := []) (cap := []) T rfl rfl rfl rfl evf (.cons (T.e 0 rfl) (.cons evc .nil)) Tryz.func129 rfl rfl ?_
  refine Calls.mono (Cut_any p [58] _ (by omega) (hT _ _ M)) ?_
  clear T; rintro e wc ⟨rfl, hb⟩ ac T
  replace M := M.call hb; clear hb
  have hcl := cut_len p
  refine Zg7 T (Zq (Zrm rfl (T.e 0 rfl))) rfl (Ze 0 rfl rfl rfl) rfl (Ze 1 rfl rfl rfl) rfl (Ze 2 rfl rfl rfl) rfl (Za 2 rfl rfl) rfl (Za 2 rfl rfl) rfl (Za 2 rfl rfl) rfl ?_; clear T ac; intro ac T
  replace T := T.pick [0, 1, 2, 11, 12, 13, 14, 15, 16, 17] rfl
  refine Zln ?_
  refine Zsr ?_
  refine lq T (Zrm rfl (T.e 2 rfl)) ?_; clear T ac; intro ac T
  refine Zl2 ?_
  refine Zoc (first := []) (cap := []) T rfl rfl rfl rfl evf (.cons (T.e 0 rfl) .nil) Tryz.func128 rfl rfl ?_
  refine Calls.mono (number_any ((Lib.cut p [58]).1) _ (by omega) (hT _ _ M)) ?_
  clear T; rintro e wc ⟨nu3, rfl, hvu3, hb⟩ ac T
  replace M := M.call hb; clear hb
  refine Zg5 T (Zq (Zrm rfl (T.e 0 rfl))) rfl (Ze 0 rfl rfl rfl) rfl (Ze 1 rfl rfl rfl) rfl (Za 1 rfl rfl) rfl (Za 1 rfl rfl) rfl ?_; clear T ac; intro ac T
  replace T := T.pick [0, 1, 7, 8, 10, 11, 12, 13, 14, 15, 16] rfl
  refine Zln ?_
  refine Zsr ?_
  refine lq T (Zrm rfl (T.e 3 rfl)) ?_; clear T ac; intro ac T
  refine Zl2 ?_
  refine Zoc (first := []) (cap := []) T rfl rfl rfl rfl evf (.cons (T.e 0 rfl) .nil) Tryz.func128 rfl rfl ?_
  refine Calls.mono (number_any ((Lib.cut p [58]).2.1) _ (by omega) (hT _ _ M)) ?_
  clear T; rintro e wc ⟨nu4, rfl, hvu4, hb⟩ ac T
  replace M := M.call hb; clear hb
  refine Zg5 T (Zq (Zrm rfl (T.e 0 rfl))) rfl (Ze 0 rfl rfl rfl) rfl (Ze 1 rfl rfl rfl) rfl (Za 1 rfl rfl) rfl (Za 1 rfl rfl) rfl ?_; clear T ac; intro ac T
  replace T := T.pick [0, 1, 7, 8, 9, 11, 12, 13, 14, 15, 16, 17] rfl
  refine Zln ?_
  refine wp_seq ?_
  refine cut_seq (fun ac wc => Tm ac 102 [(1, .pointer (some ⟨bj, 0, none⟩)), (3, .pointer (some ⟨g1, 0, none⟩)), (8, .slice At xs.length ct), (9, .slice none 0 0), (17, .int .i64 nu3), (19, .int .i64 nu4), (41, .slice Aq1 lq1.length (cu1 - 1)), (42, .int .i64 ((lq1.length : Nat) : Int)), (43, .int .i64 (i : Int)), (88, .bool ((!((Lib.cut p [58]).2.2)) || ((!((numP ((Lib.cut p [58]).1)).isSome)) || (!((numP ((Lib.cut p [58]).2.1)).isSome)))))] ∧ Mem w exq wc ((g1, .cells [sv tongueW, .int .i64 3, .int .i64 0, .func (.func 123) #[] #[]]) :: (bj, .cells (jobL j A c)) :: (I0 ++ Iu1 ++ It))) ?_ ?_
  ·refine wp_region_lit ?_
   refine Zg3 T (Zq (Zrm rfl (T.e 4 rfl))) rfl (fun _ T => Zq (rn_not rfl (T.e 0 rfl))) rfl (Zm 0 rfl rfl) rfl ?_; clear T ac; intro ac T
   rcases Bool.eq_false_or_eq_true (!((Lib.cut p [58]).2.2)) with h5 | h5
   ·refine Zg7 T (Zp (Zwn rfl rfl (T.e 0 rfl) h5)) rfl (fun _ T => Zp (Zwn rfl rfl (T.e 1 rfl) h5)) rfl (fun _ T => Zq (Zr1 rfl (T.e 2 rfl) h5 evc)) rfl (Zm 0 rfl rfl) rfl (fun _ T => Zp (Zwn rfl rfl (T.e 0 rfl) rfl)) rfl (fun _ T => Zp (Zwn rfl rfl (T.e 1 rfl) rfl)) rfl (fun _ T => Zq (Zr1 rfl (T.e 2 rfl) rfl evc)) rfl ?_; clear T ac; intro ac T
    refine wpList_nil ?_
    replace T := T.pick [0, 1, 2, 5, 6, 11, 13, 15, 16, 17, 18, 19, 20, 21] rfl
    exact ⟨(T.pick (E' := [(1, .pointer (some ⟨bj, 0, none⟩)), (3, .pointer (some ⟨g1, 0, none⟩)), (8, .slice At xs.length ct), (9, .slice none 0 0), (17, .int .i64 nu3), (19, .int .i64 nu4), (41, .slice Aq1 lq1.length (cu1 - 1)), (42, .int .i64 ((lq1.length : Nat) : Int)), (43, .int .i64 (i : Int)), (88, .bool true)]) [7, 8, 9, 10, 6, 5, 11, 12, 13, 0] rfl).as (by (try rw [show (!((Lib.cut p [58]).2.2)) = true from h5]); (try rfl)), M.mask [true, true] rfl⟩
   refine Zg4 T (Zw (Zwy rfl rfl (T.e 0 rfl) h5) (Zrm rfl (T.e 5 rfl))) rfl (fun _ T => Zw (Zwy rfl rfl (T.e 1 rfl) h5) (rn_not rfl (T.e 0 rfl))) rfl (fun _ T => Zq (Zr0 rfl (T.e 2 rfl) h5 (T.e 0 rfl))) rfl (Zm 0 rfl rfl) rfl ?_; clear T ac; intro ac T
   rcases Bool.eq_false_or_eq_true (!((numP ((Lib.cut p [58]).1)).isSome)) with h6 | h6
   ·refine Zg3 T (Zp (Zwn rfl rfl (T.e 0 rfl) h6)) rfl (fun _ T => Zp (Zwn rfl rfl (T.e 1 rfl) h6)) rfl (fun _ T => Zq (Zr1 rfl (T.e 2 rfl) h6 evc)) rfl ?_; clear T ac; intro ac T
    refine wpList_nil ?_
    replace T := T.pick [0, 1, 2, 5, 6, 11, 13, 15, 16, 17, 18, 19, 20, 21] rfl
    exact ⟨(T.pick (E' := [(1, .pointer (some ⟨bj, 0, none⟩)), (3, .pointer (some ⟨g1, 0, none⟩)), (8, .slice At xs.length ct), (9, .slice none 0 0), (17, .int .i64 nu3), (19, .int .i64 nu4), (41, .slice Aq1 lq1.length (cu1 - 1)), (42, .int .i64 ((lq1.length : Nat) : Int)), (43, .int .i64 (i : Int)), (88, .bool true)]) [7, 8, 9, 10, 6, 5, 11, 12, 13, 0] rfl).as (by (try rw [show (!((Lib.cut p [58]).2.2)) = false from h5]); (try rw [show (!((numP ((Lib.cut p [58]).1)).isSome)) = true from h6]); (try rfl)), M.mask [true, true] rfl⟩
   refine Zg3 T (Zw (Zwy rfl rfl (T.e 0 rfl) h6) (Zrm rfl (T.e 7 rfl))) rfl (fun _ T => Zw (Zwy rfl rfl (T.e 1 rfl) h6) (rn_not rfl (T.e 0 rfl))) rfl (fun _ T => Zq (Zr0 rfl (T.e 2 rfl) h6 (T.e 0 rfl))) rfl ?_; clear T ac; intro ac T
   refine wpList_nil ?_
   replace T := T.pick [0, 1, 2, 5, 6, 11, 13, 15, 16, 17, 18, 19, 20, 21] rfl
   exact ⟨(T.pick (E' := [(1, .pointer (some ⟨bj, 0, none⟩)), (3, .pointer (some ⟨g1, 0, none⟩)), (8, .slice At xs.length ct), (9, .slice none 0 0), (17, .int .i64 nu3), (19, .int .i64 nu4), (41, .slice Aq1 lq1.length (cu1 - 1)), (42, .int .i64 ((lq1.length : Nat) : Int)), (43, .int .i64 (i : Int)), (88, .bool (!((numP ((Lib.cut p [58]).2.1)).isSome)))]) [7, 8, 9, 10, 6, 5, 11, 12, 13, 0] rfl).as (by (try rw [show (!((Lib.cut p [58]).2.2)) = false from h5]); (try rw [show (!((numP ((Lib.cut p [58]).1)).isSome)) = false from h6]); (try rfl)), M.mask [true, true] rfl⟩
  clear T M
  rintro ac wc ⟨T, M⟩
  refine wp_cond_split (T.e 9 rfl) ?_ ?_
  ·intro h7
   (have h7' := h7; try simp only [Zb1, Zb2, Zb3, Zb4, Zb5, Zb6, Zb7] at h7')
   refine Zsr ?_
   refine lq T (Zra rfl evc) ?_; clear T ac; intro ac T
   refine wpList_nil ?_
   replace T := T.pick [0] rfl
   replace M := M.mask [false, true] rfl
   replace M : Mem w exq wc ((bj, .cells (jobL j A c)) :: (I0 ++ Iu1 ++ It)) := M
   refine Znr ?_
   refine Zrt ?_
   refine Zrb ?_
   refine Zrt ?_
   refine Zrt ?_
   refine Zrb ?_
   refine Zrt ?_
   refine rt_1 T rfl (T.e 0 rfl) ?_
   have hwp := word_norg2 (p := p) (by assumption)
   rw [Zdt (by omega : i < 3), hwp] at H
   exact LineP.none (L := (bj, .cells (jobL j A c)) :: I0) (H.trans rfl) ((show Mem w exq wc ((bj, .cells (jobL j A c)) :: (I0 ++ Iu1 ++ It)) from M.permT [0] 1 rfl rfl rfl rfl).sub (List.Sublist.cons_cons _ (subL (subL (List.Sublist.refl _))))) ⟨A, c, I0, rfl, hsl⟩
  intro h7
  (have h7' := h7; try simp only [Zb1, Zb2, Zb3, Zb4, Zb5, Zb6, Zb7] at h7')
  refine Zsk ?_
  refine wp_region_lit ?_
  refine Zg4 (v4 := (.agg #[.int .i64 nu3, .int .i64 nu4])) T (Zq (Zrm rfl (T.e 2 rfl))) rfl (Zm 5 rfl rfl) rfl (Zm 7 rfl rfl) rfl (fun _ T => Zq (rn_build rfl (.cons (T.e 1 rfl) (.cons (T.e 0 rfl) .nil)) (fun _ => by kernel_rfl))) rfl ?_; clear T ac; intro ac T
  refine Zl2 ?_
  refine ow_bs (e := 23) [.int .i64 nu3, .int .i64 nu4] M T rfl rfl rfl rfl (.cons (T.e 0 rfl) .nil) (fun _ => by kernel_rfl) ?_; clear M T; intro g2 wc ac M T
  refine Zl2 ?_
  refine ow_app (((g2, .cells [.int .i64 nu3, .int .i64 nu4]) :: (g1, .cells [sv tongueW, .int .i64 3, .int .i64 0, .func (.func 123) #[] #[]]) :: (bj, .cells (jobL j A c)) :: (I0 ++ Iu1))) Tryz.info23 hslx M (by first | rfl | simp) T rfl rfl rfl rfl Tryz.underlying28 rfl rfl rfl (by omega) (T.e 4 rfl) (T.e 0 rfl) (Zne (i := 0) rfl) rfl rfl ?_; clear M T; intro ga1 cga1 wc ac M T
  refine l_q (v := (.slice (some ⟨ga1, 0, none⟩) (xs.length + 1) cga1)) (T.pick [0, 1, 2, 3, 4, 5, 6, 7, 9, 10, 11, 12, 13, 14, 15] rfl) rfl rfl rfl rfl (Zra rfl (T.e 0 rfl)) ?_; clear T ac; intro ac T
  refine wpList_nil ?_
  replace T := T.pick [0, 7, 8, 9, 12, 13, 14] rfl
  replace M := M.mask [true, false, true, true] rfl
  refine Znb ?_
  refine nm_then ?_
  refine wp_region_lit ?_
  refine lq T (rn_add rfl (T.e 6 rfl) evc (by omega)) ?_; clear T ac; intro ac T
  refine l_q (v := (.int .i64 ((i : Int) + 1))) (T.pick [0, 1, 2, 3, 4, 5, 6] rfl) rfl rfl rfl rfl (Zrm rfl (T.e 0 rfl)) ?_; clear T ac; intro ac T
  replace T := T.pick [0, 2, 3, 4, 5, 6, 7] rfl
  refine Zln ?_
  have e9 : xs.length + 1 = (xs ++ [(nu3, nu4)]).length := by simp
  have e8 : ((rc xs) ++ [.int .i64 nu3, .int .i64 nu4]) = rc (xs ++ [(nu3, nu4)]) := by first | rw [rc_snoc] | rw [← rc_snoc]
  rw [e9, e8] at M
  rw [e9] at T
  clear e9 e8
  have hwp := word_rgok (p := p) (by assumption) hvu3 hvu4
  rw [Zdt (by omega : i < 3), hwp, andR_put, ← flatR_snoc] at H
  exact ⟨_, by omega, i + 1, (xs ++ [(nu3, nu4)]), _, _, [(ga1, .row 23 2 (xs ++ [(nu3, nu4)]).length (rc (xs ++ [(nu3, nu4)])) cga1)], rfl, (by omega), H, (Sl.row _ _ _ _ _ _), (by simp only [List.length_append, List.length_cons, List.length_nil]; omega), T.pick [2, 3, 1, 4, 5, 6, 0] rfl, (Mem.spinW [(g1, .cells [sv tongueW, .int .i64 3, .int .i64 0, .func (.func 123) #[] #[]]), (bj, .cells (jobL j A c))] [(ga1, .row 23 2 (xs ++ [(nu3, nu4)]).length (rc (xs ++ [(nu3, nu4)])) cga1)] (I0 ++ Iu1) (M.permT [1, 2, 0] 3 rfl rfl rfl rfl))⟩
 intro h3
 refine wp_exit ?_
 refine Zet ?_
 refine Zet ?_
 refine ex_hit ?_
 refine nm_then ?_
 refine Zsr ?_
 refine Zg5 (v1 := (.pointer (some ⟨g1, 3, none⟩))) T (Zq (Zrf (off := 3) rfl (T.e 2 rfl) (fun _ _ _ => by kernel_rfl))) rfl (Zo M 0 0 rfl rfl rfl rfl) rfl (Zm 3 rfl rfl) rfl (Zm 6 rfl rfl) rfl (Zm 8 rfl rfl) rfl ?_; clear T ac; intro ac T
 refine Zl2 ?_
 have hx3 : xs.length = 3 := by omega
 obtain ⟨p0, p1, t0, t1, r0, r1, rfl⟩ := len3 hx3
 obtain ⟨bx, ox, SVx⟩ := hslx.spW rfl
 have hne := hslx.ne (M.sub (.cons _ (.cons_cons _ (Zsq _ _))))
 refine Zoc (first := []) (cap := []) T rfl rfl rfl rfl (T.e 3 rfl) (.cons (T.e 2 rfl) (.cons (T.e 1 rfl) (.cons (T.e 0 rfl) .nil))) Tryz.func123 rfl rfl ?_
 refine Calls.mono (take0_any bj j A c At ct none 0 p0 p1 t0 t1 r0 r1 _ (M.nth 1 rfl) ((SVx w exq).rd M (.cons _ (.cons _ (Zsq _ _)))) hne ⟨rfl, fun h => (by cases h)⟩ (fun _ _ h => by cases h)) ?_
 clear T; rintro e wc ⟨rfl, N⟩ ac T
 replace M := Mem.joinX (X := [(bj, .cells [.int .i64 j.p0, .int .i64 j.p1, .int .i64 j.t0, .int .i64 j.t1, .int .i64 j.r0, .int .i64 j.r1, .int .i64 j.u0, .int .i64 j.u1, .int .i64 j.d0, .int .i64 j.d1, .int .i64 j.a0, .int .i64 j.a1, .int .i64 j.b0, .int .i64 j.b1, .int .i64 j.le, .slice A j.sh.length c, .int .i64 j.wi, .int .i64 j.me])]) (F := ((g1, .cells [sv tongueW, .int .i64 3, .int .i64 0, .func (.func 123) #[] #[]]) :: (I0 ++ Iu1 ++ It))) (M.permT [1, 0] 2 rfl rfl rfl rfl) N (fun b h => by subst h; exact Zz2)
 clear N
 replace M : Mem w exq wc ((bj, .cells [.int .i64 p0, .int .i64 p1, .int .i64 t0, .int .i64 t1, .int .i64 r0, .int .i64 r1, .int .i64 j.u0, .int .i64 j.u1, .int .i64 j.d0, .int .i64 j.d1, .int .i64 j.a0, .int .i64 j.a1, .int .i64 j.b0, .int .i64 j.b1, .int .i64 j.le, .slice A j.sh.length c, .int .i64 j.wi, .int .i64 j.me]) :: (g1, .cells [sv tongueW, .int .i64 3, .int .i64 0, .func (.func 123) #[] #[]]) :: (I0 ++ Iu1 ++ It)) := M
 refine wpList_nil ?_
 replace T := T.pick [] rfl
 replace M := M.mask [true, false] rfl
 replace M : Mem w exq wc ((bj, .cells [.int .i64 p0, .int .i64 p1, .int .i64 t0, .int .i64 t1, .int .i64 r0, .int .i64 r1, .int .i64 j.u0, .int .i64 j.u1, .int .i64 j.d0, .int .i64 j.d1, .int .i64 j.a0, .int .i64 j.a1, .int .i64 j.b0, .int .i64 j.b1, .int .i64 j.le, .slice A j.sh.length c, .int .i64 j.wi, .int .i64 j.me]) :: (I0 ++ Iu1 ++ It)) := M
 refine nm_then ?_
 refine Zsr ?_
 refine lq T (Zra rfl evc) ?_; clear T ac; intro ac T
 refine Zln ?_
 refine wp_ret ?_
 refine rt_1 T rfl (T.e 0 rfl) ?_
 rw [List.drop_of_length_le (by rw [List.length_drop]; omega)] at H
 have hs9 : (lineA tongueW 3 0 s) = some (flatR [(p0, p1), (t0, t1), (r0, r1)]) := by rw [H]; cases 3 - i <;> simp [wordsA, andR]
 exact ⟨by rw [hs9]; rfl, (bj, .cells (jobL (putK 0 (flatR [(p0, p1), (t0, t1), (r0, r1)]) j) A c)) :: I0, M.sub (((Zsl I0 Iu1).trans (Zsl _ It)).cons_cons _), by rw [hs9]; exact ⟨A, c, I0, rfl, hsl⟩⟩
theorem Mem.fore {w0 w : World} {ex : Nat → Prop} {b g : Nat × BA} {X Y Z : List (Nat × BA)} (M : Mem w0 ex w (b :: g :: (X ++ Y ++ Z))) : Mem w0 ex w ((b :: X) ++ (g :: (Y ++ Z))) :=
 have hp : (b :: g :: (X ++ Y ++ Z)).Perm ((b :: X) ++ (g :: (Y ++ Z))) := by
  rw [List.append_assoc]
  exact List.Perm.cons _ (List.perm_middle (a := g) (l₁ := X) (l₂ := Y ++ Z)).symm
 ⟨M.os, M.tape, M.output, M.size, M.block, fun p h => M.blk p (hp.mem_iff.2 h), (hp.map _).nodup_iff.1 M.nd⟩
theorem len1r {xs : List (Int × Int)} (h : xs.length = 1) : ∃ a b, xs = [(a, b)] := by
 match xs, h with
 | [(a, b)], _ => exact ⟨a, b, rfl⟩
theorem read2_any (s : List UInt8) (bj : Nat) (j : Jb) (A : Option Addr) (c : Nat) (I0 : List (Nat × BA)) (exq : Nat → Prop) (w : World) (hs : s.length ≤ 800000) (hj : j.sh.length ≤ 800000) (hT : ∀ wc L, Mem w exq wc L → StrW wc) (hsl : Sl 23 2 (.slice A j.sh.length c) j.sh.length (rc j.sh) I0) (M0 : Mem w exq w ((bj, .cells [.int .i64 j.p0, .int .i64 j.p1, .int .i64 j.t0, .int .i64 j.t1, .int .i64 j.r0, .int .i64 j.r1, .int .i64 j.u0, .int .i64 j.u1, .int .i64 j.d0, .int .i64 j.d1, .int .i64 j.a0, .int .i64 j.a1, .int .i64 j.b0, .int .i64 j.b1, .int .i64 j.le, .slice A j.sh.length c, .int .i64 j.wi, .int .i64 j.me]) :: I0)) :
   Calls Tryz.prog 55 #[.agg #[sv shiftW, .int .i64 1, .int .i64 0, .func (.func 125) #[] #[]], .pointer (some ⟨bj, 0, none⟩), sv s] w (LineP (lineA shiftW 1 0 s) w exq bj 2 j) := by
 refine Zpx exq Tryz.func55 rfl 102 rfl [.agg #[sv shiftW, .int .i64 1, .int .i64 0, .func (.func 125) #[] #[]], .pointer (some ⟨bj, 0, none⟩), sv s] rfl rfl M0 ?_
 intro ac wc T M
 refine Zsr ?_
 refine Zl2 ?_
 refine Zob M T rfl rfl rfl rfl (T.e 0 rfl) rfl ?_; clear M T; intro g1 wc ac M T
 refine lq T (Zra rfl evc) ?_; clear T ac; intro ac T
 replace T := T.pick [1, 3, 4] rfl
 refine Zln ?_
 refine Zsr ?_
 refine lq T (Zrm rfl (T.e 2 rfl)) ?_; clear T ac; intro ac T
 refine Zl2 ?_
 refine Zoc (first := []) (cap := []) T rfl rfl rfl rfl evf (.cons (T.e 0 rfl) (.cons evc .nil)) Tryz.func52 rfl rfl ?_
 refine Calls.mono (Split2_any s 32 _ (by omega) (hT _ _ M)) ?_
 clear T; rintro e wc ⟨Au1, cu1, bu1, ou1, Iu1, rfl, hc9u1, SVu1, N⟩ ac T
 obtain ⟨lsu1, hlsu1⟩ : ∃ q, q = spl 32 s := ⟨_, rfl⟩
 rw [← hlsu1] at hc9u1 SVu1 T
 have Su1 := SVu1 w exq
 replace M := (M.join N).swapI
 clear N
 replace M : Mem w exq wc ((g1, .cells [sv shiftW, .int .i64 1, .int .i64 0, .func (.func 125) #[] #[]]) :: (bj, .cells (jobL j A c)) :: (I0 ++ Iu1)) := M
 have hlenu1 : lsu1.length ≤ s.length + 1 := by rw [hlsu1]; exact spl_len _ _
 have hposu1 : 0 < lsu1.length := by rw [hlsu1]; exact spl_pos _ _
 obtain ⟨w0u1, hzu1⟩ : ∃ q, lsu1[0]? = some q := ⟨_, List.getElem?_eq_getElem hposu1⟩
 refine lq T (Zra rfl (T.e 0 rfl)) ?_; clear T ac; intro ac T
 replace T := T.pick [0, 3, 4] rfl
 refine Zln ?_
 refine wp_seq ?_
 refine cut_seq (fun ac wc => Tm ac 102 [(1, .pointer (some ⟨bj, 0, none⟩)), (3, .pointer (some ⟨g1, 0, none⟩)), (7, .slice Au1 lsu1.length cu1), (39, .bool ((!(decide (w0u1 = shiftW))) || (!(decide (((lsu1.length : Nat) : Int) = 2)))))] ∧ Mem w exq wc ((g1, .cells [sv shiftW, .int .i64 1, .int .i64 0, .func (.func 125) #[] #[]]) :: (bj, .cells (jobL j A c)) :: (I0 ++ Iu1))) ?_ ?_
 ·refine Zgs M (M.mask [true, true] rfl) 17 (by kernel_rfl) rfl (by kernel_rfl) ?_
  clear M; intro wc M
  refine gq T 0 1 rfl (fun _ _ _ _ _ => (Zrm rfl (T.e 0 rfl))) ?_; clear T ac; intro ac T
  refine gq T 1 3 rfl (fun _ _ _ _ _ => (Zri (size := 1) 0 rfl (T.e 0 rfl) evc ⟨_, Tryz.underlying37, by kernel_rfl⟩ rfl (by omega) (Su1.at0 (by omega)))) ?_; clear T ac; intro ac T
  refine gq T 2 7 rfl (fun B w' hD hl hS => (rn_cell (Sp.stC0 Su1 (show Mem w exq w' _ from hS) (.cons _ (.cons _ (Zsq _ _))) hzu1) rfl (T.e 0 rfl))) ?_; clear T ac; intro ac T
  refine gq (v := (.pointer (some ⟨g1, 0, none⟩))) T 3 15 rfl (fun _ _ _ _ _ => (Zrf (off := 0) rfl (T.e 4 rfl) (fun _ _ _ => by kernel_rfl))) ?_; clear T ac; intro ac T
  refine gq T 4 31 rfl (fun B w' hD hl hS => (Zro (Mem.nth (show Mem w exq w' _ from hS) 0 rfl) rfl (T.e 0 rfl) rfl)) ?_; clear T ac; intro ac T
  refine gq T 5 63 rfl (fun _ _ _ _ _ => (rn_sneq rfl (T.e 2 rfl) (T.e 0 rfl))) ?_; clear T ac; intro ac T
  refine gq T 6 127 rfl (fun _ _ _ _ _ => (Zrm rfl (T.e 0 rfl))) ?_; clear T ac; intro ac T
  rcases Bool.eq_false_or_eq_true (!(decide (w0u1 = shiftW))) with h1 | h1
  ·replace h1 : ¬ (w0u1 = shiftW) := by first | (rw [Bool.not_eq_true'] at h1; exact of_decide_eq_false h1) | simpa using h1
   refine g_pass (T := T) (i := 7) rfl (by kernel_rfl) (by kernel_rfl : (Zpb 17 127).setIfInBounds 7 true = Zpb 17 255) si_U (fun _ _ _ h => h) (Zwn rfl rfl (T.e 0 rfl) (by simp [h1])) rfl rfl rfl ?_; clear T ac; intro ac T
   refine g_pass (T := T) (i := 8) rfl (by kernel_rfl) (by kernel_rfl : (Zpb 17 255).setIfInBounds 8 true = Zpb 17 511) si_U (fun _ _ _ h => h) (Zwn rfl rfl (T.e 1 rfl) (by simp [h1])) rfl rfl rfl ?_; clear T ac; intro ac T
   refine g_pass (T := T) (i := 9) rfl (by kernel_rfl) (by kernel_rfl : (Zpb 17 511).setIfInBounds 9 true = Zpb 17 1023) si_U (fun _ _ _ h => h) (Zwn rfl rfl (T.e 2 rfl) (by simp [h1])) rfl rfl rfl ?_; clear T ac; intro ac T
   refine g_pass (T := T) (i := 10) rfl (by kernel_rfl) (by kernel_rfl : (Zpb 17 1023).setIfInBounds 10 true = Zpb 17 2047) si_U (fun _ _ _ h => h) (Zwn rfl rfl (T.e 3 rfl) (by simp [h1])) rfl rfl rfl ?_; clear T ac; intro ac T
   refine g_pass (T := T) (i := 11) rfl (by kernel_rfl) (by kernel_rfl : (Zpb 17 2047).setIfInBounds 11 true = Zpb 17 4095) si_U (fun _ _ _ h => h) (Zwn rfl rfl (T.e 4 rfl) (by simp [h1])) rfl rfl rfl ?_; clear T ac; intro ac T
   refine g_pass (T := T) (i := 12) rfl (by kernel_rfl) (by kernel_rfl : (Zpb 17 4095).setIfInBounds 12 true = Zpb 17 8191) si_U (fun _ _ _ h => h) (Zwn rfl rfl (T.e 5 rfl) (by simp [h1])) rfl rfl rfl ?_; clear T ac; intro ac T
   refine g_pass (T := T) (i := 13) rfl (by kernel_rfl) (by kernel_rfl : (Zpb 17 8191).setIfInBounds 13 true = Zpb 17 16383) si_U (fun _ _ _ h => h) (Zwn rfl rfl (T.e 6 rfl) (by simp [h1])) rfl rfl rfl ?_; clear T ac; intro ac T
   refine g_pass (T := T) (i := 14) rfl (by kernel_rfl) (by kernel_rfl : (Zpb 17 16383).setIfInBounds 14 true = Zpb 17 32767) si_U (fun _ _ _ h => h) (Zwn rfl rfl (T.e 7 rfl) (by simp [h1])) rfl rfl rfl ?_; clear T ac; intro ac T
   refine g_pass (T := T) (i := 15) rfl (by kernel_rfl) (by kernel_rfl : (Zpb 17 32767).setIfInBounds 15 true = Zpb 17 65535) si_U (fun _ _ _ h => h) (Zwn rfl rfl (T.e 8 rfl) (by simp [h1])) rfl rfl rfl ?_; clear T ac; intro ac T
   refine gq T 16 131071 rfl (fun _ _ _ _ _ => (Zr1 rfl (T.e 9 rfl) (by simp [h1]) evc)) ?_; clear T ac; intro ac T
   refine Zgd (by kernel_rfl) ?_
   replace T := T.pick [0, 17, 18, 19] rfl
   exact ⟨(T.pick (E' := [(1, .pointer (some ⟨bj, 0, none⟩)), (3, .pointer (some ⟨g1, 0, none⟩)), (7, .slice Au1 lsu1.length cu1), (39, .bool true)]) [3, 2, 1, 0] rfl).as (by (try rw [show (!(decide (w0u1 = shiftW))) = true from (by simp [h1])]); (try rfl)), M.mask [true, true] rfl⟩
  replace h1 : w0u1 = shiftW := by first | (rw [Bool.not_eq_false'] at h1; exact of_decide_eq_true h1) | simpa using h1
  refine g_q (T := T) (i := 7) rfl (by kernel_rfl) (by kernel_rfl : (Zpb 17 127).setIfInBounds 7 true = Zpb 17 255) si_U (fun _ _ _ h => h) (Zwy rfl rfl (T.e 0 rfl) (by simp [h1])) rfl rfl rfl (fun _ _ _ _ _ => (Zrm rfl (T.e 7 rfl))) ?_; clear T ac; intro ac T
  refine g_q (T := T) (i := 8) rfl (by kernel_rfl) (by kernel_rfl : (Zpb 17 255).setIfInBounds 8 true = Zpb 17 511) si_U (fun _ _ _ h => h) (Zwy rfl rfl (T.e 1 rfl) (by simp [h1])) rfl rfl rfl (fun _ _ _ _ _ => (Zrl rfl Tryz.underlying37 (T.e 0 rfl))) ?_; clear T ac; intro ac T
  refine g_q (v := (.pointer (some ⟨g1, 1, none⟩))) (T := T) (i := 9) rfl (by kernel_rfl) (by kernel_rfl : (Zpb 17 511).setIfInBounds 9 true = Zpb 17 1023) si_U (fun _ _ _ h => h) (Zwy rfl rfl (T.e 2 rfl) (by simp [h1])) rfl rfl rfl (fun _ _ _ _ _ => (Zrf (off := 1) rfl (T.e 10 rfl) (fun _ _ _ => by kernel_rfl))) ?_; clear T ac; intro ac T
  refine g_q (T := T) (i := 10) rfl (by kernel_rfl) (by kernel_rfl : (Zpb 17 1023).setIfInBounds 10 true = Zpb 17 2047) si_U (fun _ _ _ h => h) (Zwy rfl rfl (T.e 3 rfl) (by simp [h1])) rfl rfl rfl (fun B w' hD hl hS => (Zro (Mem.nth (show Mem w exq w' _ from hS) 0 rfl) rfl (T.e 0 rfl) rfl)) ?_; clear T ac; intro ac T
  refine g_q (v := (.int .i64 2)) (T := T) (i := 11) rfl (by kernel_rfl) (by kernel_rfl : (Zpb 17 2047).setIfInBounds 11 true = Zpb 17 4095) si_U (fun _ _ _ h => h) (Zwy rfl rfl (T.e 4 rfl) (by simp [h1])) rfl rfl rfl (fun _ _ _ _ _ => (rn_ofI (rn_add rfl evc (T.e 0 rfl) (by omega)) (by rfl))) ?_; clear T ac; intro ac T
  refine g_q (v := (.pointer (some ⟨g1, 2, none⟩))) (T := T) (i := 12) rfl (by kernel_rfl) (by kernel_rfl : (Zpb 17 4095).setIfInBounds 12 true = Zpb 17 8191) si_U (fun _ _ _ h => h) (Zwy rfl rfl (T.e 5 rfl) (by simp [h1])) rfl rfl rfl (fun _ _ _ _ _ => (Zrf (off := 2) rfl (T.e 13 rfl) (fun _ _ _ => by kernel_rfl))) ?_; clear T ac; intro ac T
  refine g_q (T := T) (i := 13) rfl (by kernel_rfl) (by kernel_rfl : (Zpb 17 8191).setIfInBounds 13 true = Zpb 17 16383) si_U (fun _ _ _ h => h) (Zwy rfl rfl (T.e 6 rfl) (by simp [h1])) rfl rfl rfl (fun B w' hD hl hS => (Zro (Mem.nth (show Mem w exq w' _ from hS) 0 rfl) rfl (T.e 0 rfl) rfl)) ?_; clear T ac; intro ac T
  refine g_q (v := (.int .i64 2)) (T := T) (i := 14) rfl (by kernel_rfl) (by kernel_rfl : (Zpb 17 16383).setIfInBounds 14 true = Zpb 17 32767) si_U (fun _ _ _ h => h) (Zwy rfl rfl (T.e 7 rfl) (by simp [h1])) rfl rfl rfl (fun _ _ _ _ _ => (rn_ofI (rn_add rfl (T.e 2 rfl) (T.e 0 rfl) (by omega)) (by rfl))) ?_; clear T ac; intro ac T
  refine g_q (T := T) (i := 15) rfl (by kernel_rfl) (by kernel_rfl : (Zpb 17 32767).setIfInBounds 15 true = Zpb 17 65535) si_U (fun _ _ _ h => h) (Zwy rfl rfl (T.e 8 rfl) (by simp [h1])) rfl rfl rfl (fun _ _ _ _ _ => (rn_neq rfl (T.e 6 rfl) (T.e 0 rfl))) ?_; clear T ac; intro ac T
  refine gq T 16 131071 rfl (fun _ _ _ _ _ => (Zr0 rfl (T.e 9 rfl) (by simp [h1]) (T.e 0 rfl))) ?_; clear T ac; intro ac T
  refine Zgd (by kernel_rfl) ?_
  replace T := T.pick [0, 17, 18, 19] rfl
  exact ⟨(T.pick (E' := [(1, .pointer (some ⟨bj, 0, none⟩)), (3, .pointer (some ⟨g1, 0, none⟩)), (7, .slice Au1 lsu1.length cu1), (39, .bool (!(decide (((lsu1.length : Nat) : Int) = 2))))]) [3, 2, 1, 0] rfl).as (by (try rw [show (!(decide (w0u1 = shiftW))) = false from (by simp [h1])]); (try rfl)), M.mask [true, true] rfl⟩
 clear T M
 rintro ac wc ⟨T, M⟩
 refine wp_cond_split (T.e 3 rfl) ?_ ?_
 ·intro h2
  (have h2' := h2; try simp only [Zb1, Zb2, Zb3, Zb4, Zb5, Zb6, Zb7] at h2')
  refine Zsr ?_
  refine lq T (Zra rfl evc) ?_; clear T ac; intro ac T
  refine wpList_nil ?_
  replace T := T.pick [0] rfl
  replace M := M.mask [false, true] rfl
  refine Znr ?_
  refine Zrt ?_
  refine rt_1 T rfl (T.e 0 rfl) ?_
  have hno : (lineA shiftW 1 0 s) = none := by
    refine lineA_no (w0 := w0u1) (by rw [← hlsu1]; exact hzu1) ?_
    rintro ⟨h8, h9⟩
    rw [← hlsu1] at h9
    exact cond_bad (a := w0u1) (w := shiftW) (x := ((lsu1.length : Nat) : Int)) (y := 2) (by assumption) ⟨h8, by omega⟩
  exact LineP.none (L := (bj, .cells (jobL j A c)) :: I0) hno ((show Mem w exq wc ((bj, .cells (jobL j A c)) :: (I0 ++ Iu1)) from M.permT [0] 1 rfl rfl rfl rfl).sub (List.Sublist.cons_cons _ (subL (List.Sublist.refl _)))) ⟨A, c, I0, rfl, hsl⟩
 intro h2
 (have h2' := h2; try simp only [Zb1, Zb2, Zb3, Zb4, Zb5, Zb6, Zb7] at h2')
 refine Zsk ?_
 refine Zsr ?_
 refine lq T (Zra rfl evc) ?_; clear T ac; intro ac T
 replace T := T.pick [0, 1, 2, 3] rfl
 refine Zln ?_
 refine Zsr ?_
 refine lq T (Zra rfl evc) ?_; clear T ac; intro ac T
 refine Zln ?_
 refine wp_seq ?_
 refine Zsr ?_
 refine Zg2 T (Zq (Zrm rfl (T.e 4 rfl))) rfl (fun _ T => Zq (rn_slice (size := 1) (l := 1) (h := lsu1.length) rfl Tryz.underlying37 (by kernel_rfl) (T.e 0 rfl) evc rfl (by omega) (by omega))) rfl ?_; clear T ac; intro ac T
 obtain ⟨Aq1, hAq1⟩ : ∃ q : Option Addr, q = (if cu1 = 1 then Au1 else Option.map (fun x : Addr => x.add (1 * 1)) Au1) := ⟨_, rfl⟩
 rw [← hAq1] at T
 obtain ⟨lq1, hlq1⟩ : ∃ q, q = (lsu1.drop 1).take (lsu1.length - 1) := ⟨_, rfl⟩
 have nlq1 : lq1.length = lsu1.length - 1 := by rw [hlq1, List.length_take, List.length_drop]; (try simp only [List.length_cons, List.length_append, List.length_nil]); omega
 rw [← nlq1] at T
 have SAq1 : Sp w exq Iu1 Aq1 lq1.length 1 bu1 (ou1 + 1 * 1) (st lq1) := by rw [nlq1, hAq1, hlq1, ← st_part]; exact Su1.sub (by omega) (by omega) (by omega)
 refine Zg2 T (Zq (Zrl rfl Tryz.underlying37 (T.e 0 rfl))) rfl (fun _ T => Zq (Zrm rfl evc)) rfl ?_; clear T ac; intro ac T
 replace T := T.pick [0, 1, 2, 4, 5, 6, 7] rfl
 refine Zln ?_
 refine wp_block ?_
 have hcond := cond_ok (a := w0u1) (w := shiftW) (x := ((lsu1.length : Nat) : Int)) (y := 2) (by assumption)
 replace hcond : w0u1 = shiftW ∧ lsu1.length = 1 + 1 + 0 := ⟨hcond.1, by have := hcond.2; omega⟩
 refine wp_loop_n (fun mz ac wc => ∃ (i : Nat) (xs : List (Int × Int)) (At : Option Addr) (ct : Nat) (It : List (Nat × BA)), mz = 1 - i ∧ (i ≤ 1) ∧ ((lineA shiftW 1 0 s) = andR (some (flatR xs)) (wordsA (1 - i) ((lsu1.drop 1).drop i))) ∧ (Sl 23 2 (.slice At xs.length ct) xs.length (rc xs) It) ∧ (xs.length = i) ∧ Tm ac 102 [(1, .pointer (some ⟨bj, 0, none⟩)), (3, .pointer (some ⟨g1, 0, none⟩)), (8, .slice At xs.length ct), (9, .slice none 0 0), (41, .slice Aq1 lq1.length (cu1 - 1)), (42, .int .i64 ((lq1.length : Nat) : Int)), (43, .int .i64 (i : Int))] ∧ Mem w exq wc ((g1, .cells [sv shiftW, .int .i64 1, .int .i64 0, .func (.func 125) #[] #[]]) :: (bj, .cells (jobL j A c)) :: (I0 ++ Iu1 ++ It))) ?_ ?_
 ·exact ⟨_, 0, [], none, 0, [], rfl, (by omega), (by rw [hlsu1, lineA_prog (by rw [← hlsu1]; exact hzu1) hcond.1 (by rw [← hlsu1]; exact hcond.2)]; exact (andR_zero _).symm), (Sl.nil _ _), rfl, T.pick [5, 6, 4, 3, 2, 1, 0] rfl, (by simp only [List.append_nil]; exact M)⟩
 clear T M
 rintro mz ac wc ⟨i, xs, At, ct, It, hmm1, hi, H, hslx, hxl, T, M⟩
 refine Zsr ?_
 refine lq T (rn_lss rfl (T.e 6 rfl) (T.e 5 rfl)) ?_; clear T ac; intro ac T
 refine Zln ?_
 refine wp_seq ?_
 refine wp_if (T.e 0 rfl) ?_ ?_
 ·intro h3
  have hq9 : lq1 = lsu1.drop 1 := by rw [hlq1]; exact List.take_of_length_le (by rw [List.length_drop]; exact Nat.le_refl _)
  obtain ⟨p, hkp⟩ : ∃ q, lq1[i]? = some q := ⟨_, List.getElem?_eq_getElem (by omega)⟩
  have hkq : (lsu1.drop 1)[i]? = some p := by rw [← hq9]; exact hkp
  have hpl : p.length ≤ s.length := spl_mem_len (c := 32) (by rw [← hlsu1]; exact List.mem_of_mem_drop (List.mem_of_getElem? hkq))
  rw [wordsP_step (R := 1) hkq] at H
  refine Zsk ?_
  refine wp_seq ?_
  refine wp_block ?_
  refine Zsr ?_
  refine Zg5 T (Zq (Zrm rfl (T.e 7 rfl))) rfl (fun _ T => Zq (Zri (size := 1) i rfl (T.e 6 rfl) (T.e 8 rfl) ⟨_, Tryz.underlying37, by kernel_rfl⟩ rfl (by omega) (SAq1.at0 (by omega)))) rfl (fun _ T => Zq (rn_cell (Sp.stC0 SAq1 M (.cons _ (.cons _ (subL (Zsq _ _)))) hkp) rfl (T.e 0 rfl))) rfl (Za 2 rfl rfl) rfl (Za 1 rfl rfl) rfl ?_; clear T ac; intro ac T
  replace T := T.pick [0, 1, 6, 7, 8, 9, 10, 11, 12] rfl
  refine Zln ?_
  refine wp_seq ?_
  refine Zsr ?_
  refine Zg4 (v2 := (.pointer (some ⟨g1, 1, none⟩))) T (Zq (Zrm rfl (T.e 1 rfl))) rfl (Zf 1 4 rfl rfl) rfl (Zo M 0 0 rfl rfl rfl rfl) rfl (fun _ T => Zq (rn_geq rfl (T.e 2 rfl) (T.e 0 rfl))) rfl ?_; clear T ac; intro ac T
  replace T := T.pick [0, 4, 6, 7, 8, 9, 10, 11, 12] rfl
  refine Zln ?_
  refine wp_if (T.e 0 rfl) ?_ ?_
  ·intro h4
   exfalso
   omega
  intro h4
  refine Zsk ?_
  refine Zsr ?_
  refine lq T (Zrm rfl (T.e 1 rfl)) ?_; clear T ac; intro ac T
  refine Zl2 ?_
  refine Zoc (first := []) (cap := []) T rfl rfl rfl rfl evf (.cons (T.e 0 rfl) (.cons evc .nil)) Tryz.func129 rfl rfl ?_
  refine Calls.mono (Cut_any p [58] _ (by omega) (hT _ _ M)) ?_
  clear T; rintro e wc ⟨rfl, hb⟩ ac T
  replace M := M.call hb; clear hb
  have hcl := cut_len p
  refine Zg7 T (Zq (Zrm rfl (T.e 0 rfl))) rfl (Ze 0 rfl rfl rfl) rfl (Ze 1 rfl rfl rfl) rfl (Ze 2 rfl rfl rfl) rfl (Za 2 rfl rfl) rfl (Za 2 rfl rfl) rfl (Za 2 rfl rfl) rfl ?_; clear T ac; intro ac T
  replace T := T.pick [0, 1, 2, 11, 12, 13, 14, 15, 16, 17] rfl
  refine Zln ?_
  refine Zsr ?_
  refine lq T (Zrm rfl (T.e 2 rfl)) ?_; clear T ac; intro ac T
  refine Zl2 ?_
  refine Zoc (first := []) (cap := []) T rfl rfl rfl rfl evf (.cons (T.e 0 rfl) .nil) Tryz.func128 rfl rfl ?_
  refine Calls.mono (number_any ((Lib.cut p [58]).1) _ (by omega) (hT _ _ M)) ?_
  clear T; rintro e wc ⟨nu3, rfl, hvu3, hb⟩ ac T
  replace M := M.call hb; clear hb
  refine Zg5 T (Zq (Zrm rfl (T.e 0 rfl))) rfl (Ze 0 rfl rfl rfl) rfl (Ze 1 rfl rfl rfl) rfl (Za 1 rfl rfl) rfl (Za 1 rfl rfl) rfl ?_; clear T ac; intro ac T
  replace T := T.pick [0, 1, 7, 8, 10, 11, 12, 13, 14, 15, 16] rfl
  refine Zln ?_
  refine Zsr ?_
  refine lq T (Zrm rfl (T.e 3 rfl)) ?_; clear T ac; intro ac T
  refine Zl2 ?_
  refine Zoc (first := []) (cap := []) T rfl rfl rfl rfl evf (.cons (T.e 0 rfl) .nil) Tryz.func128 rfl rfl ?_
  refine Calls.mono (number_any ((Lib.cut p [58]).2.1) _ (by omega) (hT _ _ M)) ?_
  clear T; rintro e wc ⟨nu4, rfl, hvu4, hb⟩ ac T
  replace M := M.call hb; clear hb
  refine Zg5 T (Zq (Zrm rfl (T.e 0 rfl))) rfl (Ze 0 rfl rfl rfl) rfl (Ze 1 rfl rfl rfl) rfl (Za 1 rfl rfl) rfl (Za 1 rfl rfl) rfl ?_; clear T ac; intro ac T
  replace T := T.pick [0, 1, 7, 8, 9, 11, 12, 13, 14, 15, 16, 17] rfl
  refine Zln ?_
  refine wp_seq ?_
  refine cut_seq (fun ac wc => Tm ac 102 [(1, .pointer (some ⟨bj, 0, none⟩)), (3, .pointer (some ⟨g1, 0, none⟩)), (8, .slice At xs.length ct), (9, .slice none 0 0), (17, .int .i64 nu3), (19, .int .i64 nu4), (41, .slice Aq1 lq1.length (cu1 - 1)), (42, .int .i64 ((lq1.length : Nat) : Int)), (43, .int .i64 (i : Int)), (88, .bool ((!((Lib.cut p [58]).2.2)) || ((!((numP ((Lib.cut p [58]).1)).isSome)) || (!((numP ((Lib.cut p [58]).2.1)).isSome)))))] ∧ Mem w exq wc ((g1, .cells [sv shiftW, .int .i64 1, .int .i64 0, .func (.func 125) #[] #[]]) :: (bj, .cells (jobL j A c)) :: (I0 ++ Iu1 ++ It))) ?_ ?_
  ·refine wp_region_lit ?_
   refine Zg3 T (Zq (Zrm rfl (T.e 4 rfl))) rfl (fun _ T => Zq (rn_not rfl (T.e 0 rfl))) rfl (Zm 0 rfl rfl) rfl ?_; clear T ac; intro ac T
   rcases Bool.eq_false_or_eq_true (!((Lib.cut p [58]).2.2)) with h5 | h5
   ·refine Zg7 T (Zp (Zwn rfl rfl (T.e 0 rfl) h5)) rfl (fun _ T => Zp (Zwn rfl rfl (T.e 1 rfl) h5)) rfl (fun _ T => Zq (Zr1 rfl (T.e 2 rfl) h5 evc)) rfl (Zm 0 rfl rfl) rfl (fun _ T => Zp (Zwn rfl rfl (T.e 0 rfl) rfl)) rfl (fun _ T => Zp (Zwn rfl rfl (T.e 1 rfl) rfl)) rfl (fun _ T => Zq (Zr1 rfl (T.e 2 rfl) rfl evc)) rfl ?_; clear T ac; intro ac T
    refine wpList_nil ?_
    replace T := T.pick [0, 1, 2, 5, 6, 11, 13, 15, 16, 17, 18, 19, 20, 21] rfl
    exact ⟨(T.pick (E' := [(1, .pointer (some ⟨bj, 0, none⟩)), (3, .pointer (some ⟨g1, 0, none⟩)), (8, .slice At xs.length ct), (9, .slice none 0 0), (17, .int .i64 nu3), (19, .int .i64 nu4), (41, .slice Aq1 lq1.length (cu1 - 1)), (42, .int .i64 ((lq1.length : Nat) : Int)), (43, .int .i64 (i : Int)), (88, .bool true)]) [7, 8, 9, 10, 6, 5, 11, 12, 13, 0] rfl).as (by (try rw [show (!((Lib.cut p [58]).2.2)) = true from h5]); (try rfl)), M.mask [true, true] rfl⟩
   refine Zg4 T (Zw (Zwy rfl rfl (T.e 0 rfl) h5) (Zrm rfl (T.e 5 rfl))) rfl (fun _ T => Zw (Zwy rfl rfl (T.e 1 rfl) h5) (rn_not rfl (T.e 0 rfl))) rfl (fun _ T => Zq (Zr0 rfl (T.e 2 rfl) h5 (T.e 0 rfl))) rfl (Zm 0 rfl rfl) rfl ?_; clear T ac; intro ac T
   rcases Bool.eq_false_or_eq_true (!((numP ((Lib.cut p [58]).1)).isSome)) with h6 | h6
   ·refine Zg3 T (Zp (Zwn rfl rfl (T.e 0 rfl) h6)) rfl (fun _ T => Zp (Zwn rfl rfl (T.e 1 rfl) h6)) rfl (fun _ T => Zq (Zr1 rfl (T.e 2 rfl) h6 evc)) rfl ?_; clear T ac; intro ac T
    refine wpList_nil ?_
    replace T := T.pick [0, 1, 2, 5, 6, 11, 13, 15, 16, 17, 18, 19, 20, 21] rfl
    exact ⟨(T.pick (E' := [(1, .pointer (some ⟨bj, 0, none⟩)), (3, .pointer (some ⟨g1, 0, none⟩)), (8, .slice At xs.length ct), (9, .slice none 0 0), (17, .int .i64 nu3), (19, .int .i64 nu4), (41, .slice Aq1 lq1.length (cu1 - 1)), (42, .int .i64 ((lq1.length : Nat) : Int)), (43, .int .i64 (i : Int)), (88, .bool true)]) [7, 8, 9, 10, 6, 5, 11, 12, 13, 0] rfl).as (by (try rw [show (!((Lib.cut p [58]).2.2)) = false from h5]); (try rw [show (!((numP ((Lib.cut p [58]).1)).isSome)) = true from h6]); (try rfl)), M.mask [true, true] rfl⟩
   refine Zg3 T (Zw (Zwy rfl rfl (T.e 0 rfl) h6) (Zrm rfl (T.e 7 rfl))) rfl (fun _ T => Zw (Zwy rfl rfl (T.e 1 rfl) h6) (rn_not rfl (T.e 0 rfl))) rfl (fun _ T => Zq (Zr0 rfl (T.e 2 rfl) h6 (T.e 0 rfl))) rfl ?_; clear T ac; intro ac T
   refine wpList_nil ?_
   replace T := T.pick [0, 1, 2, 5, 6, 11, 13, 15, 16, 17, 18, 19, 20, 21] rfl
   exact ⟨(T.pick (E' := [(1, .pointer (some ⟨bj, 0, none⟩)), (3, .pointer (some ⟨g1, 0, none⟩)), (8, .slice At xs.length ct), (9, .slice none 0 0), (17, .int .i64 nu3), (19, .int .i64 nu4), (41, .slice Aq1 lq1.length (cu1 - 1)), (42, .int .i64 ((lq1.length : Nat) : Int)), (43, .int .i64 (i : Int)), (88, .bool (!((numP ((Lib.cut p [58]).2.1)).isSome)))]) [7, 8, 9, 10, 6, 5, 11, 12, 13, 0] rfl).as (by (try rw [show (!((Lib.cut p [58]).2.2)) = false from h5]); (try rw [show (!((numP ((Lib.cut p [58]).1)).isSome)) = false from h6]); (try rfl)), M.mask [true, true] rfl⟩
  clear T M
  rintro ac wc ⟨T, M⟩
  refine wp_cond_split (T.e 9 rfl) ?_ ?_
  ·intro h7
   (have h7' := h7; try simp only [Zb1, Zb2, Zb3, Zb4, Zb5, Zb6, Zb7] at h7')
   refine Zsr ?_
   refine lq T (Zra rfl evc) ?_; clear T ac; intro ac T
   refine wpList_nil ?_
   replace T := T.pick [0] rfl
   replace M := M.mask [false, true] rfl
   replace M : Mem w exq wc ((bj, .cells (jobL j A c)) :: (I0 ++ Iu1 ++ It)) := M
   refine Znr ?_
   refine Zrt ?_
   refine Zrb ?_
   refine Zrt ?_
   refine Zrt ?_
   refine Zrb ?_
   refine Zrt ?_
   refine rt_1 T rfl (T.e 0 rfl) ?_
   have hwp := word_norg2 (p := p) (by assumption)
   rw [Zdt (by omega : i < 1), hwp] at H
   exact LineP.none (L := (bj, .cells (jobL j A c)) :: I0) (H.trans rfl) ((show Mem w exq wc ((bj, .cells (jobL j A c)) :: (I0 ++ Iu1 ++ It)) from M.permT [0] 1 rfl rfl rfl rfl).sub (List.Sublist.cons_cons _ (subL (subL (List.Sublist.refl _))))) ⟨A, c, I0, rfl, hsl⟩
  intro h7
  (have h7' := h7; try simp only [Zb1, Zb2, Zb3, Zb4, Zb5, Zb6, Zb7] at h7')
  refine Zsk ?_
  refine wp_region_lit ?_
  refine Zg4 (v4 := (.agg #[.int .i64 nu3, .int .i64 nu4])) T (Zq (Zrm rfl (T.e 2 rfl))) rfl (Zm 5 rfl rfl) rfl (Zm 7 rfl rfl) rfl (fun _ T => Zq (rn_build rfl (.cons (T.e 1 rfl) (.cons (T.e 0 rfl) .nil)) (fun _ => by kernel_rfl))) rfl ?_; clear T ac; intro ac T
  refine Zl2 ?_
  refine ow_bs (e := 23) [.int .i64 nu3, .int .i64 nu4] M T rfl rfl rfl rfl (.cons (T.e 0 rfl) .nil) (fun _ => by kernel_rfl) ?_; clear M T; intro g2 wc ac M T
  refine Zl2 ?_
  refine ow_app (((g2, .cells [.int .i64 nu3, .int .i64 nu4]) :: (g1, .cells [sv shiftW, .int .i64 1, .int .i64 0, .func (.func 125) #[] #[]]) :: (bj, .cells (jobL j A c)) :: (I0 ++ Iu1))) Tryz.info23 hslx M (by first | rfl | simp) T rfl rfl rfl rfl Tryz.underlying28 rfl rfl rfl (by omega) (T.e 4 rfl) (T.e 0 rfl) (Zne (i := 0) rfl) rfl rfl ?_; clear M T; intro ga1 cga1 wc ac M T
  refine l_q (v := (.slice (some ⟨ga1, 0, none⟩) (xs.length + 1) cga1)) (T.pick [0, 1, 2, 3, 4, 5, 6, 7, 9, 10, 11, 12, 13, 14, 15] rfl) rfl rfl rfl rfl (Zra rfl (T.e 0 rfl)) ?_; clear T ac; intro ac T
  refine wpList_nil ?_
  replace T := T.pick [0, 7, 8, 9, 12, 13, 14] rfl
  replace M := M.mask [true, false, true, true] rfl
  refine Znb ?_
  refine nm_then ?_
  refine wp_region_lit ?_
  refine lq T (rn_add rfl (T.e 6 rfl) evc (by omega)) ?_; clear T ac; intro ac T
  refine l_q (v := (.int .i64 ((i : Int) + 1))) (T.pick [0, 1, 2, 3, 4, 5, 6] rfl) rfl rfl rfl rfl (Zrm rfl (T.e 0 rfl)) ?_; clear T ac; intro ac T
  replace T := T.pick [0, 2, 3, 4, 5, 6, 7] rfl
  refine Zln ?_
  have e9 : xs.length + 1 = (xs ++ [(nu3, nu4)]).length := by simp
  have e8 : ((rc xs) ++ [.int .i64 nu3, .int .i64 nu4]) = rc (xs ++ [(nu3, nu4)]) := by first | rw [rc_snoc] | rw [← rc_snoc]
  rw [e9, e8] at M
  rw [e9] at T
  clear e9 e8
  have hwp := word_rgok (p := p) (by assumption) hvu3 hvu4
  rw [Zdt (by omega : i < 1), hwp, andR_put, ← flatR_snoc] at H
  exact ⟨_, by omega, i + 1, (xs ++ [(nu3, nu4)]), _, _, [(ga1, .row 23 2 (xs ++ [(nu3, nu4)]).length (rc (xs ++ [(nu3, nu4)])) cga1)], rfl, (by omega), H, (Sl.row _ _ _ _ _ _), (by simp only [List.length_append, List.length_cons, List.length_nil]; omega), T.pick [2, 3, 1, 4, 5, 6, 0] rfl, (Mem.spinW [(g1, .cells [sv shiftW, .int .i64 1, .int .i64 0, .func (.func 125) #[] #[]]), (bj, .cells (jobL j A c))] [(ga1, .row 23 2 (xs ++ [(nu3, nu4)]).length (rc (xs ++ [(nu3, nu4)])) cga1)] (I0 ++ Iu1) (M.permT [1, 2, 0] 3 rfl rfl rfl rfl))⟩
 intro h3
 refine wp_exit ?_
 refine Zet ?_
 refine Zet ?_
 refine ex_hit ?_
 refine nm_then ?_
 refine Zsr ?_
 refine Zg5 (v1 := (.pointer (some ⟨g1, 3, none⟩))) T (Zq (Zrf (off := 3) rfl (T.e 2 rfl) (fun _ _ _ => by kernel_rfl))) rfl (Zo M 0 0 rfl rfl rfl rfl) rfl (Zm 3 rfl rfl) rfl (Zm 6 rfl rfl) rfl (Zm 8 rfl rfl) rfl ?_; clear T ac; intro ac T
 refine Zl2 ?_
 have hx1 : xs.length = 1 := by omega
 obtain ⟨s0, s1, rfl⟩ := len1r hx1
 obtain ⟨bx, ox, SVx⟩ := hslx.spW rfl
 have Mq := Mem.fore (b := (bj, .cells (jobL j A c))) (M.permT [1, 0] 2 rfl rfl rfl rfl)
 have My : Mem w exq wc ((bj, .cells (jobL j A c)) :: I0) := Mq.sub (Zsl _ _)
 have Sx := Sp.of (ex' := inL ((bj, .cells (jobL j A c)) :: I0)) Mq (fun _ h => h) (SVx w exq) (.cons _ (Zsq _ _))
 refine Zoc (first := []) (cap := []) T rfl rfl rfl rfl (T.e 3 rfl) (.cons (T.e 2 rfl) (.cons (T.e 1 rfl) (.cons (T.e 0 rfl) .nil))) Tryz.func125 rfl rfl ?_
 refine Calls.mono (take2_any bj j A c I0 (inL ((bj, .cells (jobL j A c)) :: I0)) At ct none 0 0 bx ox s0 s1 _ (by omega) hsl Sx My.rebase) ?_
 clear T; rintro e wc ⟨gs, cs, rfl, N⟩ ac T
 have e9 : j.sh.length + 1 = (j.sh ++ [(s0, s1)]).length := by simp
 have e8 : rc j.sh ++ rc [(s0, s1)] = rc (j.sh ++ [(s0, s1)]) := (rc_append _ _).symm
 rw [e9, e8] at N
 replace M := Mem.joinX (X := ((bj, .cells (jobL j A c)) :: I0)) Mq N (fun b h => h)
 clear N Mq My Sx
 replace M : Mem w exq wc ((bj, .cells [.int .i64 j.p0, .int .i64 j.p1, .int .i64 j.t0, .int .i64 j.t1, .int .i64 j.r0, .int .i64 j.r1, .int .i64 j.u0, .int .i64 j.u1, .int .i64 j.d0, .int .i64 j.d1, .int .i64 j.a0, .int .i64 j.a1, .int .i64 j.b0, .int .i64 j.b1, .int .i64 j.le, .slice (some ⟨gs, 0, none⟩) ((j.sh ++ [(s0, s1)]).length) cs, .int .i64 j.wi, .int .i64 j.me]) :: (gs, .row 23 2 (j.sh ++ [(s0, s1)]).length (rc (j.sh ++ [(s0, s1)])) cs) :: (g1, .cells [sv shiftW, .int .i64 1, .int .i64 0, .func (.func 125) #[] #[]]) :: (Iu1 ++ It)) := M
 refine wpList_nil ?_
 replace T := T.pick [] rfl
 replace M := M.mask [true, true, false] rfl
 refine nm_then ?_
 refine Zsr ?_
 refine lq T (Zra rfl evc) ?_; clear T ac; intro ac T
 refine Zln ?_
 refine wp_ret ?_
 refine rt_1 T rfl (T.e 0 rfl) ?_
 rw [List.drop_of_length_le (by rw [List.length_drop]; omega)] at H
 have hs9 : (lineA shiftW 1 0 s) = some (flatR [(s0, s1)]) := by rw [H]; cases 1 - i <;> simp [wordsA, andR]
 exact ⟨by rw [hs9]; rfl, (bj, .cells (jobL (putK 2 (flatR [(s0, s1)]) j) (some ⟨gs, 0, none⟩) cs)) :: [(gs, .row 23 2 (j.sh ++ [(s0, s1)]).length (rc (j.sh ++ [(s0, s1)])) cs)], M.sub (.cons_cons _ (.cons_cons _ (Zz9 _))), by rw [hs9]; exact ⟨_, _, _, rfl, Sl.row _ _ _ _ _ _⟩⟩
theorem andR_zero2 (o : Option (List Int)) : andR (some []) o = o := by cases o <;> rfl
theorem len2i {xs : List Int} (h : xs.length = 2) : ∃ a b, xs = [a, b] := by
 match xs, h with
 | [a, b], _ => exact ⟨a, b, rfl⟩
theorem read3_any (s : List UInt8) (bj : Nat) (j : Jb) (A : Option Addr) (c : Nat) (I0 : List (Nat × BA)) (exq : Nat → Prop) (w : World) (hs : s.length ≤ 800000) (hT : ∀ wc L, Mem w exq wc L → StrW wc) (hsl : Sl 23 2 (.slice A j.sh.length c) j.sh.length (rc j.sh) I0) (M0 : Mem w exq w ((bj, .cells [.int .i64 j.p0, .int .i64 j.p1, .int .i64 j.t0, .int .i64 j.t1, .int .i64 j.r0, .int .i64 j.r1, .int .i64 j.u0, .int .i64 j.u1, .int .i64 j.d0, .int .i64 j.d1, .int .i64 j.a0, .int .i64 j.a1, .int .i64 j.b0, .int .i64 j.b1, .int .i64 j.le, .slice A j.sh.length c, .int .i64 j.wi, .int .i64 j.me]) :: I0)) :
   Calls Tryz.prog 55 #[.agg #[sv passW, .int .i64 0, .int .i64 2, .func (.func 126) #[] #[]], .pointer (some ⟨bj, 0, none⟩), sv s] w (LineP (lineA passW 0 2 s) w exq bj 3 j) := by
 refine Zpx exq Tryz.func55 rfl 102 rfl [.agg #[sv passW, .int .i64 0, .int .i64 2, .func (.func 126) #[] #[]], .pointer (some ⟨bj, 0, none⟩), sv s] rfl rfl M0 ?_
 intro ac wc T M
 refine Zsr ?_
 refine Zl2 ?_
 refine Zob M T rfl rfl rfl rfl (T.e 0 rfl) rfl ?_; clear M T; intro g1 wc ac M T
 refine lq T (Zra rfl evc) ?_; clear T ac; intro ac T
 replace T := T.pick [1, 3, 4] rfl
 refine Zln ?_
 refine Zsr ?_
 refine lq T (Zrm rfl (T.e 2 rfl)) ?_; clear T ac; intro ac T
 refine Zl2 ?_
 refine Zoc (first := []) (cap := []) T rfl rfl rfl rfl evf (.cons (T.e 0 rfl) (.cons evc .nil)) Tryz.func52 rfl rfl ?_
 refine Calls.mono (Split2_any s 32 _ (by omega) (hT _ _ M)) ?_
 clear T; rintro e wc ⟨Au1, cu1, bu1, ou1, Iu1, rfl, hc9u1, SVu1, N⟩ ac T
 obtain ⟨lsu1, hlsu1⟩ : ∃ q, q = spl 32 s := ⟨_, rfl⟩
 rw [← hlsu1] at hc9u1 SVu1 T
 have Su1 := SVu1 w exq
 replace M := (M.join N).swapI
 clear N
 replace M : Mem w exq wc ((g1, .cells [sv passW, .int .i64 0, .int .i64 2, .func (.func 126) #[] #[]]) :: (bj, .cells (jobL j A c)) :: (I0 ++ Iu1)) := M
 have hlenu1 : lsu1.length ≤ s.length + 1 := by rw [hlsu1]; exact spl_len _ _
 have hposu1 : 0 < lsu1.length := by rw [hlsu1]; exact spl_pos _ _
 obtain ⟨w0u1, hzu1⟩ : ∃ q, lsu1[0]? = some q := ⟨_, List.getElem?_eq_getElem hposu1⟩
 refine lq T (Zra rfl (T.e 0 rfl)) ?_; clear T ac; intro ac T
 replace T := T.pick [0, 3, 4] rfl
 refine Zln ?_
 refine wp_seq ?_
 refine cut_seq (fun ac wc => Tm ac 102 [(1, .pointer (some ⟨bj, 0, none⟩)), (3, .pointer (some ⟨g1, 0, none⟩)), (7, .slice Au1 lsu1.length cu1), (39, .bool ((!(decide (w0u1 = passW))) || (!(decide (((lsu1.length : Nat) : Int) = 3)))))] ∧ Mem w exq wc ((g1, .cells [sv passW, .int .i64 0, .int .i64 2, .func (.func 126) #[] #[]]) :: (bj, .cells (jobL j A c)) :: (I0 ++ Iu1))) ?_ ?_
 ·refine Zgs M (M.mask [true, true] rfl) 17 (by kernel_rfl) rfl (by kernel_rfl) ?_
  clear M; intro wc M
  refine gq T 0 1 rfl (fun _ _ _ _ _ => (Zrm rfl (T.e 0 rfl))) ?_; clear T ac; intro ac T
  refine gq T 1 3 rfl (fun _ _ _ _ _ => (Zri (size := 1) 0 rfl (T.e 0 rfl) evc ⟨_, Tryz.underlying37, by kernel_rfl⟩ rfl (by omega) (Su1.at0 (by omega)))) ?_; clear T ac; intro ac T
  refine gq T 2 7 rfl (fun B w' hD hl hS => (rn_cell (Sp.stC0 Su1 (show Mem w exq w' _ from hS) (.cons _ (.cons _ (Zsq _ _))) hzu1) rfl (T.e 0 rfl))) ?_; clear T ac; intro ac T
  refine gq (v := (.pointer (some ⟨g1, 0, none⟩))) T 3 15 rfl (fun _ _ _ _ _ => (Zrf (off := 0) rfl (T.e 4 rfl) (fun _ _ _ => by kernel_rfl))) ?_; clear T ac; intro ac T
  refine gq T 4 31 rfl (fun B w' hD hl hS => (Zro (Mem.nth (show Mem w exq w' _ from hS) 0 rfl) rfl (T.e 0 rfl) rfl)) ?_; clear T ac; intro ac T
  refine gq T 5 63 rfl (fun _ _ _ _ _ => (rn_sneq rfl (T.e 2 rfl) (T.e 0 rfl))) ?_; clear T ac; intro ac T
  refine gq T 6 127 rfl (fun _ _ _ _ _ => (Zrm rfl (T.e 0 rfl))) ?_; clear T ac; intro ac T
  rcases Bool.eq_false_or_eq_true (!(decide (w0u1 = passW))) with h1 | h1
  ·replace h1 : ¬ (w0u1 = passW) := by first | (rw [Bool.not_eq_true'] at h1; exact of_decide_eq_false h1) | simpa using h1
   refine g_pass (T := T) (i := 7) rfl (by kernel_rfl) (by kernel_rfl : (Zpb 17 127).setIfInBounds 7 true = Zpb 17 255) si_U (fun _ _ _ h => h) (Zwn rfl rfl (T.e 0 rfl) (by simp [h1])) rfl rfl rfl ?_; clear T ac; intro ac T
   refine g_pass (T := T) (i := 8) rfl (by kernel_rfl) (by kernel_rfl : (Zpb 17 255).setIfInBounds 8 true = Zpb 17 511) si_U (fun _ _ _ h => h) (Zwn rfl rfl (T.e 1 rfl) (by simp [h1])) rfl rfl rfl ?_; clear T ac; intro ac T
   refine g_pass (T := T) (i := 9) rfl (by kernel_rfl) (by kernel_rfl : (Zpb 17 511).setIfInBounds 9 true = Zpb 17 1023) si_U (fun _ _ _ h => h) (Zwn rfl rfl (T.e 2 rfl) (by simp [h1])) rfl rfl rfl ?_; clear T ac; intro ac T
   refine g_pass (T := T) (i := 10) rfl (by kernel_rfl) (by kernel_rfl : (Zpb 17 1023).setIfInBounds 10 true = Zpb 17 2047) si_U (fun _ _ _ h => h) (Zwn rfl rfl (T.e 3 rfl) (by simp [h1])) rfl rfl rfl ?_; clear T ac; intro ac T
   refine g_pass (T := T) (i := 11) rfl (by kernel_rfl) (by kernel_rfl : (Zpb 17 2047).setIfInBounds 11 true = Zpb 17 4095) si_U (fun _ _ _ h => h) (Zwn rfl rfl (T.e 4 rfl) (by simp [h1])) rfl rfl rfl ?_; clear T ac; intro ac T
   refine g_pass (T := T) (i := 12) rfl (by kernel_rfl) (by kernel_rfl : (Zpb 17 4095).setIfInBounds 12 true = Zpb 17 8191) si_U (fun _ _ _ h => h) (Zwn rfl rfl (T.e 5 rfl) (by simp [h1])) rfl rfl rfl ?_; clear T ac; intro ac T
   refine g_pass (T := T) (i := 13) rfl (by kernel_rfl) (by kernel_rfl : (Zpb 17 8191).setIfInBounds 13 true = Zpb 17 16383) si_U (fun _ _ _ h => h) (Zwn rfl rfl (T.e 6 rfl) (by simp [h1])) rfl rfl rfl ?_; clear T ac; intro ac T
   refine g_pass (T := T) (i := 14) rfl (by kernel_rfl) (by kernel_rfl : (Zpb 17 16383).setIfInBounds 14 true = Zpb 17 32767) si_U (fun _ _ _ h => h) (Zwn rfl rfl (T.e 7 rfl) (by simp [h1])) rfl rfl rfl ?_; clear T ac; intro ac T
   refine g_pass (T := T) (i := 15) rfl (by kernel_rfl) (by kernel_rfl : (Zpb 17 32767).setIfInBounds 15 true = Zpb 17 65535) si_U (fun _ _ _ h => h) (Zwn rfl rfl (T.e 8 rfl) (by simp [h1])) rfl rfl rfl ?_; clear T ac; intro ac T
   refine gq T 16 131071 rfl (fun _ _ _ _ _ => (Zr1 rfl (T.e 9 rfl) (by simp [h1]) evc)) ?_; clear T ac; intro ac T
   refine Zgd (by kernel_rfl) ?_
   replace T := T.pick [0, 17, 18, 19] rfl
   exact ⟨(T.pick (E' := [(1, .pointer (some ⟨bj, 0, none⟩)), (3, .pointer (some ⟨g1, 0, none⟩)), (7, .slice Au1 lsu1.length cu1), (39, .bool true)]) [3, 2, 1, 0] rfl).as (by (try rw [show (!(decide (w0u1 = passW))) = true from (by simp [h1])]); (try rfl)), M.mask [true, true] rfl⟩
  replace h1 : w0u1 = passW := by first | (rw [Bool.not_eq_false'] at h1; exact of_decide_eq_true h1) | simpa using h1
  refine g_q (T := T) (i := 7) rfl (by kernel_rfl) (by kernel_rfl : (Zpb 17 127).setIfInBounds 7 true = Zpb 17 255) si_U (fun _ _ _ h => h) (Zwy rfl rfl (T.e 0 rfl) (by simp [h1])) rfl rfl rfl (fun _ _ _ _ _ => (Zrm rfl (T.e 7 rfl))) ?_; clear T ac; intro ac T
  refine g_q (T := T) (i := 8) rfl (by kernel_rfl) (by kernel_rfl : (Zpb 17 255).setIfInBounds 8 true = Zpb 17 511) si_U (fun _ _ _ h => h) (Zwy rfl rfl (T.e 1 rfl) (by simp [h1])) rfl rfl rfl (fun _ _ _ _ _ => (Zrl rfl Tryz.underlying37 (T.e 0 rfl))) ?_; clear T ac; intro ac T
  refine g_q (v := (.pointer (some ⟨g1, 1, none⟩))) (T := T) (i := 9) rfl (by kernel_rfl) (by kernel_rfl : (Zpb 17 511).setIfInBounds 9 true = Zpb 17 1023) si_U (fun _ _ _ h => h) (Zwy rfl rfl (T.e 2 rfl) (by simp [h1])) rfl rfl rfl (fun _ _ _ _ _ => (Zrf (off := 1) rfl (T.e 10 rfl) (fun _ _ _ => by kernel_rfl))) ?_; clear T ac; intro ac T
  refine g_q (T := T) (i := 10) rfl (by kernel_rfl) (by kernel_rfl : (Zpb 17 1023).setIfInBounds 10 true = Zpb 17 2047) si_U (fun _ _ _ h => h) (Zwy rfl rfl (T.e 3 rfl) (by simp [h1])) rfl rfl rfl (fun B w' hD hl hS => (Zro (Mem.nth (show Mem w exq w' _ from hS) 0 rfl) rfl (T.e 0 rfl) rfl)) ?_; clear T ac; intro ac T
  refine g_q (v := (.int .i64 1)) (T := T) (i := 11) rfl (by kernel_rfl) (by kernel_rfl : (Zpb 17 2047).setIfInBounds 11 true = Zpb 17 4095) si_U (fun _ _ _ h => h) (Zwy rfl rfl (T.e 4 rfl) (by simp [h1])) rfl rfl rfl (fun _ _ _ _ _ => (rn_ofI (rn_add rfl evc (T.e 0 rfl) (by omega)) (by rfl))) ?_; clear T ac; intro ac T
  refine g_q (v := (.pointer (some ⟨g1, 2, none⟩))) (T := T) (i := 12) rfl (by kernel_rfl) (by kernel_rfl : (Zpb 17 4095).setIfInBounds 12 true = Zpb 17 8191) si_U (fun _ _ _ h => h) (Zwy rfl rfl (T.e 5 rfl) (by simp [h1])) rfl rfl rfl (fun _ _ _ _ _ => (Zrf (off := 2) rfl (T.e 13 rfl) (fun _ _ _ => by kernel_rfl))) ?_; clear T ac; intro ac T
  refine g_q (T := T) (i := 13) rfl (by kernel_rfl) (by kernel_rfl : (Zpb 17 8191).setIfInBounds 13 true = Zpb 17 16383) si_U (fun _ _ _ h => h) (Zwy rfl rfl (T.e 6 rfl) (by simp [h1])) rfl rfl rfl (fun B w' hD hl hS => (Zro (Mem.nth (show Mem w exq w' _ from hS) 0 rfl) rfl (T.e 0 rfl) rfl)) ?_; clear T ac; intro ac T
  refine g_q (v := (.int .i64 3)) (T := T) (i := 14) rfl (by kernel_rfl) (by kernel_rfl : (Zpb 17 16383).setIfInBounds 14 true = Zpb 17 32767) si_U (fun _ _ _ h => h) (Zwy rfl rfl (T.e 7 rfl) (by simp [h1])) rfl rfl rfl (fun _ _ _ _ _ => (rn_ofI (rn_add rfl (T.e 2 rfl) (T.e 0 rfl) (by omega)) (by rfl))) ?_; clear T ac; intro ac T
  refine g_q (T := T) (i := 15) rfl (by kernel_rfl) (by kernel_rfl : (Zpb 17 32767).setIfInBounds 15 true = Zpb 17 65535) si_U (fun _ _ _ h => h) (Zwy rfl rfl (T.e 8 rfl) (by simp [h1])) rfl rfl rfl (fun _ _ _ _ _ => (rn_neq rfl (T.e 6 rfl) (T.e 0 rfl))) ?_; clear T ac; intro ac T
  refine gq T 16 131071 rfl (fun _ _ _ _ _ => (Zr0 rfl (T.e 9 rfl) (by simp [h1]) (T.e 0 rfl))) ?_; clear T ac; intro ac T
  refine Zgd (by kernel_rfl) ?_
  replace T := T.pick [0, 17, 18, 19] rfl
  exact ⟨(T.pick (E' := [(1, .pointer (some ⟨bj, 0, none⟩)), (3, .pointer (some ⟨g1, 0, none⟩)), (7, .slice Au1 lsu1.length cu1), (39, .bool (!(decide (((lsu1.length : Nat) : Int) = 3))))]) [3, 2, 1, 0] rfl).as (by (try rw [show (!(decide (w0u1 = passW))) = false from (by simp [h1])]); (try rfl)), M.mask [true, true] rfl⟩
 clear T M
 rintro ac wc ⟨T, M⟩
 refine wp_cond_split (T.e 3 rfl) ?_ ?_
 ·intro h2
  (have h2' := h2; try simp only [Zb1, Zb2, Zb3, Zb4, Zb5, Zb6, Zb7] at h2')
  refine Zsr ?_
  refine lq T (Zra rfl evc) ?_; clear T ac; intro ac T
  refine wpList_nil ?_
  replace T := T.pick [0] rfl
  replace M := M.mask [false, true] rfl
  refine Znr ?_
  refine Zrt ?_
  refine rt_1 T rfl (T.e 0 rfl) ?_
  have hno : (lineA passW 0 2 s) = none := by
    refine lineA_no (w0 := w0u1) (by rw [← hlsu1]; exact hzu1) ?_
    rintro ⟨h8, h9⟩
    rw [← hlsu1] at h9
    exact cond_bad (a := w0u1) (w := passW) (x := ((lsu1.length : Nat) : Int)) (y := 3) (by assumption) ⟨h8, by omega⟩
  exact LineP.none (L := (bj, .cells (jobL j A c)) :: I0) hno ((show Mem w exq wc ((bj, .cells (jobL j A c)) :: (I0 ++ Iu1)) from M.permT [0] 1 rfl rfl rfl rfl).sub (List.Sublist.cons_cons _ (subL (List.Sublist.refl _)))) ⟨A, c, I0, rfl, hsl⟩
 intro h2
 (have h2' := h2; try simp only [Zb1, Zb2, Zb3, Zb4, Zb5, Zb6, Zb7] at h2')
 refine Zsk ?_
 refine Zsr ?_
 refine lq T (Zra rfl evc) ?_; clear T ac; intro ac T
 replace T := T.pick [0, 1, 2, 3] rfl
 refine Zln ?_
 refine Zsr ?_
 refine lq T (Zra rfl evc) ?_; clear T ac; intro ac T
 refine Zln ?_
 refine wp_seq ?_
 refine Zsr ?_
 refine Zg2 T (Zq (Zrm rfl (T.e 4 rfl))) rfl (fun _ T => Zq (rn_slice (size := 1) (l := 1) (h := lsu1.length) rfl Tryz.underlying37 (by kernel_rfl) (T.e 0 rfl) evc rfl (by omega) (by omega))) rfl ?_; clear T ac; intro ac T
 obtain ⟨Aq1, hAq1⟩ : ∃ q : Option Addr, q = (if cu1 = 1 then Au1 else Option.map (fun x : Addr => x.add (1 * 1)) Au1) := ⟨_, rfl⟩
 rw [← hAq1] at T
 obtain ⟨lq1, hlq1⟩ : ∃ q, q = (lsu1.drop 1).take (lsu1.length - 1) := ⟨_, rfl⟩
 have nlq1 : lq1.length = lsu1.length - 1 := by rw [hlq1, List.length_take, List.length_drop]; (try simp only [List.length_cons, List.length_append, List.length_nil]); omega
 rw [← nlq1] at T
 have SAq1 : Sp w exq Iu1 Aq1 lq1.length 1 bu1 (ou1 + 1 * 1) (st lq1) := by rw [nlq1, hAq1, hlq1, ← st_part]; exact Su1.sub (by omega) (by omega) (by omega)
 refine Zg2 T (Zq (Zrl rfl Tryz.underlying37 (T.e 0 rfl))) rfl (fun _ T => Zq (Zrm rfl evc)) rfl ?_; clear T ac; intro ac T
 replace T := T.pick [0, 1, 2, 4, 5, 6, 7] rfl
 refine Zln ?_
 refine wp_block ?_
 have hcond := cond_ok (a := w0u1) (w := passW) (x := ((lsu1.length : Nat) : Int)) (y := 3) (by assumption)
 replace hcond : w0u1 = passW ∧ lsu1.length = 1 + 0 + 2 := ⟨hcond.1, by have := hcond.2; omega⟩
 refine wp_loop_n (fun mz ac wc => ∃ (i : Nat) (xs : List Int) (At : Option Addr) (ct : Nat) (It : List (Nat × BA)), mz = 2 - i ∧ (i ≤ 2) ∧ ((lineA passW 0 2 s) = andR (some xs) (wordsA (0 - i) ((lsu1.drop 1).drop i))) ∧ (Sl 3 1 (.slice At xs.length ct) xs.length (ic xs) It) ∧ (xs.length = i) ∧ Tm ac 102 [(1, .pointer (some ⟨bj, 0, none⟩)), (3, .pointer (some ⟨g1, 0, none⟩)), (8, .slice none 0 0), (9, .slice At xs.length ct), (41, .slice Aq1 lq1.length (cu1 - 1)), (42, .int .i64 ((lq1.length : Nat) : Int)), (43, .int .i64 (i : Int))] ∧ Mem w exq wc ((g1, .cells [sv passW, .int .i64 0, .int .i64 2, .func (.func 126) #[] #[]]) :: (bj, .cells (jobL j A c)) :: (I0 ++ Iu1 ++ It))) ?_ ?_
 ·exact ⟨_, 0, [], none, 0, [], rfl, (by omega), (by rw [hlsu1, lineA_prog (by rw [← hlsu1]; exact hzu1) hcond.1 (by rw [← hlsu1]; exact hcond.2)]; exact (andR_zero2 _).symm), (Sl.nil _ _), rfl, T.pick [5, 6, 4, 3, 2, 1, 0] rfl, (by simp only [List.append_nil]; exact M)⟩
 clear T M
 rintro mz ac wc ⟨i, xs, At, ct, It, hmm1, hi, H, hslx, hxl, T, M⟩
 refine Zsr ?_
 refine lq T (rn_lss rfl (T.e 6 rfl) (T.e 5 rfl)) ?_; clear T ac; intro ac T
 refine Zln ?_
 refine wp_seq ?_
 refine wp_if (T.e 0 rfl) ?_ ?_
 ·intro h3
  have hq9 : lq1 = lsu1.drop 1 := by rw [hlq1]; exact List.take_of_length_le (by rw [List.length_drop]; exact Nat.le_refl _)
  obtain ⟨p, hkp⟩ : ∃ q, lq1[i]? = some q := ⟨_, List.getElem?_eq_getElem (by omega)⟩
  have hkq : (lsu1.drop 1)[i]? = some p := by rw [← hq9]; exact hkp
  have hpl : p.length ≤ s.length := spl_mem_len (c := 32) (by rw [← hlsu1]; exact List.mem_of_mem_drop (List.mem_of_getElem? hkq))
  rw [wordsP_step (R := 0) hkq] at H
  refine Zsk ?_
  refine wp_seq ?_
  refine wp_block ?_
  refine Zsr ?_
  refine Zg5 T (Zq (Zrm rfl (T.e 7 rfl))) rfl (fun _ T => Zq (Zri (size := 1) i rfl (T.e 6 rfl) (T.e 8 rfl) ⟨_, Tryz.underlying37, by kernel_rfl⟩ rfl (by omega) (SAq1.at0 (by omega)))) rfl (fun _ T => Zq (rn_cell (Sp.stC0 SAq1 M (.cons _ (.cons _ (subL (Zsq _ _)))) hkp) rfl (T.e 0 rfl))) rfl (Za 2 rfl rfl) rfl (Za 1 rfl rfl) rfl ?_; clear T ac; intro ac T
  replace T := T.pick [0, 1, 6, 7, 8, 9, 10, 11, 12] rfl
  refine Zln ?_
  refine wp_seq ?_
  refine Zsr ?_
  refine Zg4 (v2 := (.pointer (some ⟨g1, 1, none⟩))) T (Zq (Zrm rfl (T.e 1 rfl))) rfl (Zf 1 4 rfl rfl) rfl (Zo M 0 0 rfl rfl rfl rfl) rfl (fun _ T => Zq (rn_geq rfl (T.e 2 rfl) (T.e 0 rfl))) rfl ?_; clear T ac; intro ac T
  replace T := T.pick [0, 4, 6, 7, 8, 9, 10, 11, 12] rfl
  refine Zln ?_
  refine wp_if (T.e 0 rfl) ?_ ?_
  ·intro h4
   refine Zsr ?_
   refine lq T (Zrm rfl (T.e 1 rfl)) ?_; clear T ac; intro ac T
   refine Zl2 ?_
   refine Zoc (first := []) (cap := []) T rfl rfl rfl rfl evf (.cons (T.e 0 rfl) .nil) Tryz.func128 rfl rfl ?_
   refine Calls.mono (number_any p _ (by omega) (hT _ _ M)) ?_
   clear T; rintro e wc ⟨nu2, rfl, hvu2, hb⟩ ac T
   replace M := M.call hb; clear hb
   refine Zg5 T (Zq (Zrm rfl (T.e 0 rfl))) rfl (Ze 0 rfl rfl rfl) rfl (Ze 1 rfl rfl rfl) rfl (Za 1 rfl rfl) rfl (Za 1 rfl rfl) rfl ?_; clear T ac; intro ac T
   replace T := T.pick [0, 1, 9, 10, 11, 12, 13, 14, 15] rfl
   refine Zln ?_
   refine wp_seq ?_
   refine Zsr ?_
   refine Zg2 T (Zq (Zrm rfl (T.e 0 rfl))) rfl (fun _ T => Zq (rn_not rfl (T.e 0 rfl))) rfl ?_; clear T ac; intro ac T
   replace T := T.pick [0, 3, 4, 5, 6, 7, 8, 9, 10] rfl
   refine Zln ?_
   refine wp_cond_split (T.e 0 rfl) ?_ ?_
   ·intro h5
    (have h5' := h5; try simp only [Zb1, Zb2, Zb3, Zb4, Zb5, Zb6, Zb7] at h5')
    refine Zsr ?_
    refine lq T (Zra rfl evc) ?_; clear T ac; intro ac T
    refine wpList_nil ?_
    replace T := T.pick [0] rfl
    replace M := M.mask [false, true] rfl
    replace M : Mem w exq wc ((bj, .cells (jobL j A c)) :: (I0 ++ Iu1 ++ It)) := M
    refine Znr ?_
    refine Zrt ?_
    refine Zrt ?_
    refine Zrb ?_
    refine Zrt ?_
    refine Zrt ?_
    refine Zrb ?_
    refine Zrt ?_
    refine rt_1 T rfl (T.e 0 rfl) ?_
    have hwp := word_bad (isSome_not (o := numP p) (by assumption))
    rw [Zdf (by omega : ¬ i < 0), hwp] at H
    exact LineP.none (L := (bj, .cells (jobL j A c)) :: I0) (H.trans rfl) ((show Mem w exq wc ((bj, .cells (jobL j A c)) :: (I0 ++ Iu1 ++ It)) from M.permT [0] 1 rfl rfl rfl rfl).sub (List.Sublist.cons_cons _ (subL (subL (List.Sublist.refl _))))) ⟨A, c, I0, rfl, hsl⟩
   intro h5
   (have h5' := h5; try simp only [Zb1, Zb2, Zb3, Zb4, Zb5, Zb6, Zb7] at h5')
   refine Zsk ?_
   refine Zsr ?_
   refine Zg2 T (Zq (Zrm rfl (T.e 5 rfl))) rfl (Zm 2 rfl rfl) rfl ?_; clear T ac; intro ac T
   refine Zl2 ?_
   refine ow_bs (e := 3) [.int .i64 nu2] M T rfl rfl rfl rfl (.cons (T.e 0 rfl) .nil) (fun _ => by kernel_rfl) ?_; clear M T; intro g2 wc ac M T
   refine Zl2 ?_
   refine ow_app (((g2, .cells [.int .i64 nu2]) :: (g1, .cells [sv passW, .int .i64 0, .int .i64 2, .func (.func 126) #[] #[]]) :: (bj, .cells (jobL j A c)) :: (I0 ++ Iu1))) Tryz.info3 hslx M (by first | rfl | simp) T rfl rfl rfl rfl Tryz.underlying31 rfl rfl rfl (by omega) (T.e 2 rfl) (T.e 0 rfl) (Zne (i := 0) rfl) rfl rfl ?_; clear M T; intro ga1 cga1 wc ac M T
   refine l_q (v := (.slice (some ⟨ga1, 0, none⟩) (xs.length + 1) cga1)) (T.pick [0, 1, 2, 3, 4, 5, 6, 7, 8, 10, 11, 12] rfl) rfl rfl rfl rfl (Zra rfl (T.e 0 rfl)) ?_; clear T ac; intro ac T
   refine wpList_nil ?_
   replace T := T.pick [0, 7, 8, 9, 10, 11, 12] rfl
   replace M := M.mask [true, false, true, true] rfl
   refine nm_then ?_
   refine wp_exit ?_
   refine Zet ?_
   refine ex_hit ?_
   refine nm_then ?_
   refine wp_region_lit ?_
   refine lq T (rn_add rfl (T.e 6 rfl) evc (by omega)) ?_; clear T ac; intro ac T
   refine l_q (v := (.int .i64 ((i : Int) + 1))) (T.pick [0, 1, 2, 3, 4, 5, 6] rfl) rfl rfl rfl rfl (Zrm rfl (T.e 0 rfl)) ?_; clear T ac; intro ac T
   replace T := T.pick [0, 2, 3, 4, 5, 6, 7] rfl
   refine Zln ?_
   have e9 : xs.length + 1 = (xs ++ [nu2]).length := by simp
   have e8 : ((ic xs) ++ [.int .i64 nu2]) = ic (xs ++ [nu2]) := by rw [← ic_snoc]
   rw [e9, e8] at M
   rw [e9] at T
   clear e9 e8
   have hwp := word_num (isSome_val (hvu2) (by assumption))
   rw [Zdf (by omega : ¬ i < 0), hwp, andR_put] at H
   exact ⟨_, by omega, i + 1, (xs ++ [nu2]), _, _, [(ga1, .row 3 1 (xs ++ [nu2]).length (ic (xs ++ [nu2])) cga1)], rfl, (by omega), H, (Sl.row _ _ _ _ _ _), (by simp only [List.length_append, List.length_cons, List.length_nil]; omega), T.pick [2, 3, 4, 1, 5, 6, 0] rfl, (Mem.spinW [(g1, .cells [sv passW, .int .i64 0, .int .i64 2, .func (.func 126) #[] #[]]), (bj, .cells (jobL j A c))] [(ga1, .row 3 1 (xs ++ [nu2]).length (ic (xs ++ [nu2])) cga1)] (I0 ++ Iu1) (M.permT [1, 2, 0] 3 rfl rfl rfl rfl))⟩
  intro h4
  exfalso
  omega
 intro h3
 refine wp_exit ?_
 refine Zet ?_
 refine Zet ?_
 refine ex_hit ?_
 refine nm_then ?_
 refine Zsr ?_
 refine Zg5 (v1 := (.pointer (some ⟨g1, 3, none⟩))) T (Zq (Zrf (off := 3) rfl (T.e 2 rfl) (fun _ _ _ => by kernel_rfl))) rfl (Zo M 0 0 rfl rfl rfl rfl) rfl (Zm 3 rfl rfl) rfl (Zm 6 rfl rfl) rfl (Zm 8 rfl rfl) rfl ?_; clear T ac; intro ac T
 refine Zl2 ?_
 have hx3 : xs.length = 2 := by omega
 obtain ⟨wi, me, rfl⟩ := len2i hx3
 obtain ⟨bx, ox, SVx⟩ := hslx.spW rfl
 have hne := hslx.ne (M.sub (.cons _ (.cons_cons _ (Zsq _ _))))
 refine Zoc (first := []) (cap := []) T rfl rfl rfl rfl (T.e 3 rfl) (.cons (T.e 2 rfl) (.cons (T.e 1 rfl) (.cons (T.e 0 rfl) .nil))) Tryz.func126 rfl rfl ?_
 refine Calls.mono (take3_any bj j A c none 0 At ct wi me _ (M.nth 1 rfl) ⟨rfl, fun h => (by cases h)⟩ (fun _ _ h => by cases h) ((SVx w exq).rd M (.cons _ (.cons _ (Zsq _ _)))) hne) ?_
 clear T; rintro e wc ⟨rfl, N⟩ ac T
 replace M := Mem.joinX (X := [(bj, .cells [.int .i64 j.p0, .int .i64 j.p1, .int .i64 j.t0, .int .i64 j.t1, .int .i64 j.r0, .int .i64 j.r1, .int .i64 j.u0, .int .i64 j.u1, .int .i64 j.d0, .int .i64 j.d1, .int .i64 j.a0, .int .i64 j.a1, .int .i64 j.b0, .int .i64 j.b1, .int .i64 j.le, .slice A j.sh.length c, .int .i64 j.wi, .int .i64 j.me])]) (F := ((g1, .cells [sv passW, .int .i64 0, .int .i64 2, .func (.func 126) #[] #[]]) :: (I0 ++ Iu1 ++ It))) (M.permT [1, 0] 2 rfl rfl rfl rfl) N (fun b h => by subst h; exact Zz2)
 clear N
 replace M : Mem w exq wc ((bj, .cells [.int .i64 j.p0, .int .i64 j.p1, .int .i64 j.t0, .int .i64 j.t1, .int .i64 j.r0, .int .i64 j.r1, .int .i64 j.u0, .int .i64 j.u1, .int .i64 j.d0, .int .i64 j.d1, .int .i64 j.a0, .int .i64 j.a1, .int .i64 j.b0, .int .i64 j.b1, .int .i64 j.le, .slice A j.sh.length c, .int .i64 wi, .int .i64 me]) :: (g1, .cells [sv passW, .int .i64 0, .int .i64 2, .func (.func 126) #[] #[]]) :: (I0 ++ Iu1 ++ It)) := M
 refine wpList_nil ?_
 replace T := T.pick [] rfl
 replace M := M.mask [true, false] rfl
 replace M : Mem w exq wc ((bj, .cells [.int .i64 j.p0, .int .i64 j.p1, .int .i64 j.t0, .int .i64 j.t1, .int .i64 j.r0, .int .i64 j.r1, .int .i64 j.u0, .int .i64 j.u1, .int .i64 j.d0, .int .i64 j.d1, .int .i64 j.a0, .int .i64 j.a1, .int .i64 j.b0, .int .i64 j.b1, .int .i64 j.le, .slice A j.sh.length c, .int .i64 wi, .int .i64 me]) :: (I0 ++ Iu1 ++ It)) := M
 refine nm_then ?_
 refine Zsr ?_
 refine lq T (Zra rfl evc) ?_; clear T ac; intro ac T
 refine Zln ?_
 refine wp_ret ?_
 refine rt_1 T rfl (T.e 0 rfl) ?_
 rw [List.drop_of_length_le (by rw [List.length_drop]; omega)] at H
 have hs9 : (lineA passW 0 2 s) = some [wi, me] := by rw [H]; cases 0 - i <;> simp [wordsA, andR]
 exact ⟨by rw [hs9]; rfl, (bj, .cells (jobL (putK 3 [wi, me] j) A c)) :: I0, M.sub (((Zsl I0 Iu1).trans (Zsl _ It)).cons_cons _), by rw [hs9]; exact ⟨A, c, I0, rfl, hsl⟩⟩
theorem len4 {xs : List (Int × Int)} (h : xs.length = 4) : ∃ a b c d e f g k, xs = [(a, b), (c, d), (e, f), (g, k)] := by
 match xs, h with
 | [(a, b), (c, d), (e, f), (g, k)], _ => exact ⟨a, b, c, d, e, f, g, k, rfl⟩
theorem len1i {xs : List Int} (h : xs.length = 1) : ∃ a, xs = [a] := by
 match xs, h with
 | [a], _ => exact ⟨a, rfl⟩
theorem flatR_more {xs : List (Int × Int)} {ns : List Int} (a b : Int) (h : ns.length = 0) : flatR xs ++ ns ++ [a, b] = flatR (xs ++ [(a, b)]) ++ ns := by
 rw [List.eq_nil_of_length_eq_zero h, flatR_snoc]
 simp
theorem andR_zero3 (o : Option (List Int)) : andR (some (flatR [] ++ [])) o = o := by cases o <;> rfl
theorem read1_any (s : List UInt8) (bj : Nat) (j : Jb) (A : Option Addr) (c : Nat) (I0 : List (Nat × BA)) (exq : Nat → Prop) (w : World) (hs : s.length ≤ 800000) (hT : ∀ wc L, Mem w exq wc L → StrW wc) (hsl : Sl 23 2 (.slice A j.sh.length c) j.sh.length (rc j.sh) I0) (M0 : Mem w exq w ((bj, .cells [.int .i64 j.p0, .int .i64 j.p1, .int .i64 j.t0, .int .i64 j.t1, .int .i64 j.r0, .int .i64 j.r1, .int .i64 j.u0, .int .i64 j.u1, .int .i64 j.d0, .int .i64 j.d1, .int .i64 j.a0, .int .i64 j.a1, .int .i64 j.b0, .int .i64 j.b1, .int .i64 j.le, .slice A j.sh.length c, .int .i64 j.wi, .int .i64 j.me]) :: I0)) :
   Calls Tryz.prog 55 #[.agg #[sv fileW, .int .i64 4, .int .i64 1, .func (.func 124) #[] #[]], .pointer (some ⟨bj, 0, none⟩), sv s] w (LineP (lineA fileW 4 1 s) w exq bj 1 j) := by
 refine Zpx exq Tryz.func55 rfl 102 rfl [.agg #[sv fileW, .int .i64 4, .int .i64 1, .func (.func 124) #[] #[]], .pointer (some ⟨bj, 0, none⟩), sv s] rfl rfl M0 ?_
 intro ac wc T M
 refine Zsr ?_
 refine Zl2 ?_
 refine Zob M T rfl rfl rfl rfl (T.e 0 rfl) rfl ?_; clear M T; intro g1 wc ac M T
 refine lq T (Zra rfl evc) ?_; clear T ac; intro ac T
 replace T := T.pick [1, 3, 4] rfl
 refine Zln ?_
 refine Zsr ?_
 refine lq T (Zrm rfl (T.e 2 rfl)) ?_; clear T ac; intro ac T
 refine Zl2 ?_
 refine Zoc (first := []) (cap := []) T rfl rfl rfl rfl evf (.cons (T.e 0 rfl) (.cons evc .nil)) Tryz.func52 rfl rfl ?_
 refine Calls.mono (Split2_any s 32 _ (by omega) (hT _ _ M)) ?_
 clear T; rintro e wc ⟨Au1, cu1, bu1, ou1, Iu1, rfl, hc9u1, SVu1, N⟩ ac T
 obtain ⟨lsu1, hlsu1⟩ : ∃ q, q = spl 32 s := ⟨_, rfl⟩
 rw [← hlsu1] at hc9u1 SVu1 T
 have Su1 := SVu1 w exq
 replace M := (M.join N).swapI
 clear N
 replace M : Mem w exq wc ((g1, .cells [sv fileW, .int .i64 4, .int .i64 1, .func (.func 124) #[] #[]]) :: (bj, .cells (jobL j A c)) :: (I0 ++ Iu1)) := M
 have hlenu1 : lsu1.length ≤ s.length + 1 := by rw [hlsu1]; exact spl_len _ _
 have hposu1 : 0 < lsu1.length := by rw [hlsu1]; exact spl_pos _ _
 obtain ⟨w0u1, hzu1⟩ : ∃ q, lsu1[0]? = some q := ⟨_, List.getElem?_eq_getElem hposu1⟩
 refine lq T (Zra rfl (T.e 0 rfl)) ?_; clear T ac; intro ac T
 replace T := T.pick [0, 3, 4] rfl
 refine Zln ?_
 refine wp_seq ?_
 refine cut_seq (fun ac wc => Tm ac 102 [(1, .pointer (some ⟨bj, 0, none⟩)), (3, .pointer (some ⟨g1, 0, none⟩)), (7, .slice Au1 lsu1.length cu1), (39, .bool ((!(decide (w0u1 = fileW))) || (!(decide (((lsu1.length : Nat) : Int) = 6)))))] ∧ Mem w exq wc ((g1, .cells [sv fileW, .int .i64 4, .int .i64 1, .func (.func 124) #[] #[]]) :: (bj, .cells (jobL j A c)) :: (I0 ++ Iu1))) ?_ ?_
 ·refine Zgs M (M.mask [true, true] rfl) 17 (by kernel_rfl) rfl (by kernel_rfl) ?_
  clear M; intro wc M
  refine gq T 0 1 rfl (fun _ _ _ _ _ => (Zrm rfl (T.e 0 rfl))) ?_; clear T ac; intro ac T
  refine gq T 1 3 rfl (fun _ _ _ _ _ => (Zri (size := 1) 0 rfl (T.e 0 rfl) evc ⟨_, Tryz.underlying37, by kernel_rfl⟩ rfl (by omega) (Su1.at0 (by omega)))) ?_; clear T ac; intro ac T
  refine gq T 2 7 rfl (fun B w' hD hl hS => (rn_cell (Sp.stC0 Su1 (show Mem w exq w' _ from hS) (.cons _ (.cons _ (Zsq _ _))) hzu1) rfl (T.e 0 rfl))) ?_; clear T ac; intro ac T
  refine gq (v := (.pointer (some ⟨g1, 0, none⟩))) T 3 15 rfl (fun _ _ _ _ _ => (Zrf (off := 0) rfl (T.e 4 rfl) (fun _ _ _ => by kernel_rfl))) ?_; clear T ac; intro ac T
  refine gq T 4 31 rfl (fun B w' hD hl hS => (Zro (Mem.nth (show Mem w exq w' _ from hS) 0 rfl) rfl (T.e 0 rfl) rfl)) ?_; clear T ac; intro ac T
  refine gq T 5 63 rfl (fun _ _ _ _ _ => (rn_sneq rfl (T.e 2 rfl) (T.e 0 rfl))) ?_; clear T ac; intro ac T
  refine gq T 6 127 rfl (fun _ _ _ _ _ => (Zrm rfl (T.e 0 rfl))) ?_; clear T ac; intro ac T
  rcases Bool.eq_false_or_eq_true (!(decide (w0u1 = fileW))) with h1 | h1
  ·replace h1 : ¬ (w0u1 = fileW) := by first | (rw [Bool.not_eq_true'] at h1; exact of_decide_eq_false h1) | simpa using h1
   refine g_pass (T := T) (i := 7) rfl (by kernel_rfl) (by kernel_rfl : (Zpb 17 127).setIfInBounds 7 true = Zpb 17 255) si_U (fun _ _ _ h => h) (Zwn rfl rfl (T.e 0 rfl) (by simp [h1])) rfl rfl rfl ?_; clear T ac; intro ac T
   refine g_pass (T := T) (i := 8) rfl (by kernel_rfl) (by kernel_rfl : (Zpb 17 255).setIfInBounds 8 true = Zpb 17 511) si_U (fun _ _ _ h => h) (Zwn rfl rfl (T.e 1 rfl) (by simp [h1])) rfl rfl rfl ?_; clear T ac; intro ac T
   refine g_pass (T := T) (i := 9) rfl (by kernel_rfl) (by kernel_rfl : (Zpb 17 511).setIfInBounds 9 true = Zpb 17 1023) si_U (fun _ _ _ h => h) (Zwn rfl rfl (T.e 2 rfl) (by simp [h1])) rfl rfl rfl ?_; clear T ac; intro ac T
   refine g_pass (T := T) (i := 10) rfl (by kernel_rfl) (by kernel_rfl : (Zpb 17 1023).setIfInBounds 10 true = Zpb 17 2047) si_U (fun _ _ _ h => h) (Zwn rfl rfl (T.e 3 rfl) (by simp [h1])) rfl rfl rfl ?_; clear T ac; intro ac T
   refine g_pass (T := T) (i := 11) rfl (by kernel_rfl) (by kernel_rfl : (Zpb 17 2047).setIfInBounds 11 true = Zpb 17 4095) si_U (fun _ _ _ h => h) (Zwn rfl rfl (T.e 4 rfl) (by simp [h1])) rfl rfl rfl ?_; clear T ac; intro ac T
   refine g_pass (T := T) (i := 12) rfl (by kernel_rfl) (by kernel_rfl : (Zpb 17 4095).setIfInBounds 12 true = Zpb 17 8191) si_U (fun _ _ _ h => h) (Zwn rfl rfl (T.e 5 rfl) (by simp [h1])) rfl rfl rfl ?_; clear T ac; intro ac T
   refine g_pass (T := T) (i := 13) rfl (by kernel_rfl) (by kernel_rfl : (Zpb 17 8191).setIfInBounds 13 true = Zpb 17 16383) si_U (fun _ _ _ h => h) (Zwn rfl rfl (T.e 6 rfl) (by simp [h1])) rfl rfl rfl ?_; clear T ac; intro ac T
   refine g_pass (T := T) (i := 14) rfl (by kernel_rfl) (by kernel_rfl : (Zpb 17 16383).setIfInBounds 14 true = Zpb 17 32767) si_U (fun _ _ _ h => h) (Zwn rfl rfl (T.e 7 rfl) (by simp [h1])) rfl rfl rfl ?_; clear T ac; intro ac T
   refine g_pass (T := T) (i := 15) rfl (by kernel_rfl) (by kernel_rfl : (Zpb 17 32767).setIfInBounds 15 true = Zpb 17 65535) si_U (fun _ _ _ h => h) (Zwn rfl rfl (T.e 8 rfl) (by simp [h1])) rfl rfl rfl ?_; clear T ac; intro ac T
   refine gq T 16 131071 rfl (fun _ _ _ _ _ => (Zr1 rfl (T.e 9 rfl) (by simp [h1]) evc)) ?_; clear T ac; intro ac T
   refine Zgd (by kernel_rfl) ?_
   replace T := T.pick [0, 17, 18, 19] rfl
   exact ⟨(T.pick (E' := [(1, .pointer (some ⟨bj, 0, none⟩)), (3, .pointer (some ⟨g1, 0, none⟩)), (7, .slice Au1 lsu1.length cu1), (39, .bool true)]) [3, 2, 1, 0] rfl).as (by (try rw [show (!(decide (w0u1 = fileW))) = true from (by simp [h1])]); (try rfl)), M.mask [true, true] rfl⟩
  replace h1 : w0u1 = fileW := by first | (rw [Bool.not_eq_false'] at h1; exact of_decide_eq_true h1) | simpa using h1
  refine g_q (T := T) (i := 7) rfl (by kernel_rfl) (by kernel_rfl : (Zpb 17 127).setIfInBounds 7 true = Zpb 17 255) si_U (fun _ _ _ h => h) (Zwy rfl rfl (T.e 0 rfl) (by simp [h1])) rfl rfl rfl (fun _ _ _ _ _ => (Zrm rfl (T.e 7 rfl))) ?_; clear T ac; intro ac T
  refine g_q (T := T) (i := 8) rfl (by kernel_rfl) (by kernel_rfl : (Zpb 17 255).setIfInBounds 8 true = Zpb 17 511) si_U (fun _ _ _ h => h) (Zwy rfl rfl (T.e 1 rfl) (by simp [h1])) rfl rfl rfl (fun _ _ _ _ _ => (Zrl rfl Tryz.underlying37 (T.e 0 rfl))) ?_; clear T ac; intro ac T
  refine g_q (v := (.pointer (some ⟨g1, 1, none⟩))) (T := T) (i := 9) rfl (by kernel_rfl) (by kernel_rfl : (Zpb 17 511).setIfInBounds 9 true = Zpb 17 1023) si_U (fun _ _ _ h => h) (Zwy rfl rfl (T.e 2 rfl) (by simp [h1])) rfl rfl rfl (fun _ _ _ _ _ => (Zrf (off := 1) rfl (T.e 10 rfl) (fun _ _ _ => by kernel_rfl))) ?_; clear T ac; intro ac T
  refine g_q (T := T) (i := 10) rfl (by kernel_rfl) (by kernel_rfl : (Zpb 17 1023).setIfInBounds 10 true = Zpb 17 2047) si_U (fun _ _ _ h => h) (Zwy rfl rfl (T.e 3 rfl) (by simp [h1])) rfl rfl rfl (fun B w' hD hl hS => (Zro (Mem.nth (show Mem w exq w' _ from hS) 0 rfl) rfl (T.e 0 rfl) rfl)) ?_; clear T ac; intro ac T
  refine g_q (v := (.int .i64 5)) (T := T) (i := 11) rfl (by kernel_rfl) (by kernel_rfl : (Zpb 17 2047).setIfInBounds 11 true = Zpb 17 4095) si_U (fun _ _ _ h => h) (Zwy rfl rfl (T.e 4 rfl) (by simp [h1])) rfl rfl rfl (fun _ _ _ _ _ => (rn_ofI (rn_add rfl evc (T.e 0 rfl) (by omega)) (by rfl))) ?_; clear T ac; intro ac T
  refine g_q (v := (.pointer (some ⟨g1, 2, none⟩))) (T := T) (i := 12) rfl (by kernel_rfl) (by kernel_rfl : (Zpb 17 4095).setIfInBounds 12 true = Zpb 17 8191) si_U (fun _ _ _ h => h) (Zwy rfl rfl (T.e 5 rfl) (by simp [h1])) rfl rfl rfl (fun _ _ _ _ _ => (Zrf (off := 2) rfl (T.e 13 rfl) (fun _ _ _ => by kernel_rfl))) ?_; clear T ac; intro ac T
  refine g_q (T := T) (i := 13) rfl (by kernel_rfl) (by kernel_rfl : (Zpb 17 8191).setIfInBounds 13 true = Zpb 17 16383) si_U (fun _ _ _ h => h) (Zwy rfl rfl (T.e 6 rfl) (by simp [h1])) rfl rfl rfl (fun B w' hD hl hS => (Zro (Mem.nth (show Mem w exq w' _ from hS) 0 rfl) rfl (T.e 0 rfl) rfl)) ?_; clear T ac; intro ac T
  refine g_q (v := (.int .i64 6)) (T := T) (i := 14) rfl (by kernel_rfl) (by kernel_rfl : (Zpb 17 16383).setIfInBounds 14 true = Zpb 17 32767) si_U (fun _ _ _ h => h) (Zwy rfl rfl (T.e 7 rfl) (by simp [h1])) rfl rfl rfl (fun _ _ _ _ _ => (rn_ofI (rn_add rfl (T.e 2 rfl) (T.e 0 rfl) (by omega)) (by rfl))) ?_; clear T ac; intro ac T
  refine g_q (T := T) (i := 15) rfl (by kernel_rfl) (by kernel_rfl : (Zpb 17 32767).setIfInBounds 15 true = Zpb 17 65535) si_U (fun _ _ _ h => h) (Zwy rfl rfl (T.e 8 rfl) (by simp [h1])) rfl rfl rfl (fun _ _ _ _ _ => (rn_neq rfl (T.e 6 rfl) (T.e 0 rfl))) ?_; clear T ac; intro ac T
  refine gq T 16 131071 rfl (fun _ _ _ _ _ => (Zr0 rfl (T.e 9 rfl) (by simp [h1]) (T.e 0 rfl))) ?_; clear T ac; intro ac T
  refine Zgd (by kernel_rfl) ?_
  replace T := T.pick [0, 17, 18, 19] rfl
  exact ⟨(T.pick (E' := [(1, .pointer (some ⟨bj, 0, none⟩)), (3, .pointer (some ⟨g1, 0, none⟩)), (7, .slice Au1 lsu1.length cu1), (39, .bool (!(decide (((lsu1.length : Nat) : Int) = 6))))]) [3, 2, 1, 0] rfl).as (by (try rw [show (!(decide (w0u1 = fileW))) = false from (by simp [h1])]); (try rfl)), M.mask [true, true] rfl⟩
 clear T M
 rintro ac wc ⟨T, M⟩
 refine wp_cond_split (T.e 3 rfl) ?_ ?_
 ·intro h2
  (have h2' := h2; try simp only [Zb1, Zb2, Zb3, Zb4, Zb5, Zb6, Zb7] at h2')
  refine Zsr ?_
  refine lq T (Zra rfl evc) ?_; clear T ac; intro ac T
  refine wpList_nil ?_
  replace T := T.pick [0] rfl
  replace M := M.mask [false, true] rfl
  refine Znr ?_
  refine Zrt ?_
  refine rt_1 T rfl (T.e 0 rfl) ?_
  have hno : (lineA fileW 4 1 s) = none := by
    refine lineA_no (w0 := w0u1) (by rw [← hlsu1]; exact hzu1) ?_
    rintro ⟨h8, h9⟩
    rw [← hlsu1] at h9
    exact cond_bad (a := w0u1) (w := fileW) (x := ((lsu1.length : Nat) : Int)) (y := 6) (by assumption) ⟨h8, by omega⟩
  exact LineP.none (L := (bj, .cells (jobL j A c)) :: I0) hno ((show Mem w exq wc ((bj, .cells (jobL j A c)) :: (I0 ++ Iu1)) from M.permT [0] 1 rfl rfl rfl rfl).sub (List.Sublist.cons_cons _ (subL (List.Sublist.refl _)))) ⟨A, c, I0, rfl, hsl⟩
 intro h2
 (have h2' := h2; try simp only [Zb1, Zb2, Zb3, Zb4, Zb5, Zb6, Zb7] at h2')
 refine Zsk ?_
 refine Zsr ?_
 refine lq T (Zra rfl evc) ?_; clear T ac; intro ac T
 replace T := T.pick [0, 1, 2, 3] rfl
 refine Zln ?_
 refine Zsr ?_
 refine lq T (Zra rfl evc) ?_; clear T ac; intro ac T
 refine Zln ?_
 refine wp_seq ?_
 refine Zsr ?_
 refine Zg2 T (Zq (Zrm rfl (T.e 4 rfl))) rfl (fun _ T => Zq (rn_slice (size := 1) (l := 1) (h := lsu1.length) rfl Tryz.underlying37 (by kernel_rfl) (T.e 0 rfl) evc rfl (by omega) (by omega))) rfl ?_; clear T ac; intro ac T
 obtain ⟨Aq1, hAq1⟩ : ∃ q : Option Addr, q = (if cu1 = 1 then Au1 else Option.map (fun x : Addr => x.add (1 * 1)) Au1) := ⟨_, rfl⟩
 rw [← hAq1] at T
 obtain ⟨lq1, hlq1⟩ : ∃ q, q = (lsu1.drop 1).take (lsu1.length - 1) := ⟨_, rfl⟩
 have nlq1 : lq1.length = lsu1.length - 1 := by rw [hlq1, List.length_take, List.length_drop]; (try simp only [List.length_cons, List.length_append, List.length_nil]); omega
 rw [← nlq1] at T
 have SAq1 : Sp w exq Iu1 Aq1 lq1.length 1 bu1 (ou1 + 1 * 1) (st lq1) := by rw [nlq1, hAq1, hlq1, ← st_part]; exact Su1.sub (by omega) (by omega) (by omega)
 refine Zg2 T (Zq (Zrl rfl Tryz.underlying37 (T.e 0 rfl))) rfl (fun _ T => Zq (Zrm rfl evc)) rfl ?_; clear T ac; intro ac T
 replace T := T.pick [0, 1, 2, 4, 5, 6, 7] rfl
 refine Zln ?_
 refine wp_block ?_
 have hcond := cond_ok (a := w0u1) (w := fileW) (x := ((lsu1.length : Nat) : Int)) (y := 6) (by assumption)
 replace hcond : w0u1 = fileW ∧ lsu1.length = 1 + 4 + 1 := ⟨hcond.1, by have := hcond.2; omega⟩
 refine wp_loop_n (fun mz ac wc => ∃ (i : Nat) (xs : List (Int × Int)) (ns : List Int) (At : Option Addr) (ct : Nat) (It : List (Nat × BA)) (Bt : Option Addr) (dt : Nat) (Jt : List (Nat × BA)), mz = 5 - i ∧ (i ≤ 5) ∧ ((lineA fileW 4 1 s) = andR (some (flatR xs ++ ns)) (wordsA (4 - i) ((lsu1.drop 1).drop i))) ∧ (Sl 23 2 (.slice At xs.length ct) xs.length (rc xs) It) ∧ (Sl 3 1 (.slice Bt ns.length dt) ns.length (ic ns) Jt) ∧ (xs.length + ns.length = i) ∧ (i ≤ 4 → ns.length = 0) ∧ (4 ≤ i → xs.length = 4) ∧ Tm ac 102 [(1, .pointer (some ⟨bj, 0, none⟩)), (3, .pointer (some ⟨g1, 0, none⟩)), (8, .slice At xs.length ct), (9, .slice Bt ns.length dt), (41, .slice Aq1 lq1.length (cu1 - 1)), (42, .int .i64 ((lq1.length : Nat) : Int)), (43, .int .i64 (i : Int))] ∧ Mem w exq wc ((g1, .cells [sv fileW, .int .i64 4, .int .i64 1, .func (.func 124) #[] #[]]) :: (bj, .cells (jobL j A c)) :: (I0 ++ Iu1 ++ It ++ Jt))) ?_ ?_
 ·exact ⟨_, 0, [], [], none, 0, [], none, 0, [], rfl, (by omega), (by rw [hlsu1, lineA_prog (by rw [← hlsu1]; exact hzu1) hcond.1 (by rw [← hlsu1]; exact hcond.2)]; exact (andR_zero3 _).symm), (Sl.nil _ _), (Sl.nil _ _), rfl, (fun _ => rfl), (fun h => by omega), T.pick [5, 6, 4, 3, 2, 1, 0] rfl, (by simp only [List.append_nil]; exact M)⟩
 clear T M
 rintro mz ac wc ⟨i, xs, ns, At, ct, It, Bt, dt, Jt, hmm1, hi, H, hslx, hsln, hxl, hx4, hx5, T, M⟩
 refine Zsr ?_
 refine lq T (rn_lss rfl (T.e 6 rfl) (T.e 5 rfl)) ?_; clear T ac; intro ac T
 refine Zln ?_
 refine wp_seq ?_
 refine wp_if (T.e 0 rfl) ?_ ?_
 ·intro h3
  have hq9 : lq1 = lsu1.drop 1 := by rw [hlq1]; exact List.take_of_length_le (by rw [List.length_drop]; exact Nat.le_refl _)
  obtain ⟨p, hkp⟩ : ∃ q, lq1[i]? = some q := ⟨_, List.getElem?_eq_getElem (by omega)⟩
  have hkq : (lsu1.drop 1)[i]? = some p := by rw [← hq9]; exact hkp
  have hpl : p.length ≤ s.length := spl_mem_len (c := 32) (by rw [← hlsu1]; exact List.mem_of_mem_drop (List.mem_of_getElem? hkq))
  rw [wordsP_step (R := 4) hkq] at H
  refine Zsk ?_
  refine wp_seq ?_
  refine wp_block ?_
  refine Zsr ?_
  refine Zg5 T (Zq (Zrm rfl (T.e 7 rfl))) rfl (fun _ T => Zq (Zri (size := 1) i rfl (T.e 6 rfl) (T.e 8 rfl) ⟨_, Tryz.underlying37, by kernel_rfl⟩ rfl (by omega) (SAq1.at0 (by omega)))) rfl (fun _ T => Zq (rn_cell (Sp.stC0 SAq1 M (.cons _ (.cons _ (subL (subL (Zsq _ _))))) hkp) rfl (T.e 0 rfl))) rfl (Za 2 rfl rfl) rfl (Za 1 rfl rfl) rfl ?_; clear T ac; intro ac T
  replace T := T.pick [0, 1, 6, 7, 8, 9, 10, 11, 12] rfl
  refine Zln ?_
  refine wp_seq ?_
  refine Zsr ?_
  refine Zg4 (v2 := (.pointer (some ⟨g1, 1, none⟩))) T (Zq (Zrm rfl (T.e 1 rfl))) rfl (Zf 1 4 rfl rfl) rfl (Zo M 0 0 rfl rfl rfl rfl) rfl (fun _ T => Zq (rn_geq rfl (T.e 2 rfl) (T.e 0 rfl))) rfl ?_; clear T ac; intro ac T
  replace T := T.pick [0, 4, 6, 7, 8, 9, 10, 11, 12] rfl
  refine Zln ?_
  refine wp_if (T.e 0 rfl) ?_ ?_
  ·intro h4
   refine Zsr ?_
   refine lq T (Zrm rfl (T.e 1 rfl)) ?_; clear T ac; intro ac T
   refine Zl2 ?_
   refine Zoc (first := []) (cap := []) T rfl rfl rfl rfl evf (.cons (T.e 0 rfl) .nil) Tryz.func128 rfl rfl ?_
   refine Calls.mono (number_any p _ (by omega) (hT _ _ M)) ?_
   clear T; rintro e wc ⟨nu2, rfl, hvu2, hb⟩ ac T
   replace M := M.call hb; clear hb
   refine Zg5 T (Zq (Zrm rfl (T.e 0 rfl))) rfl (Ze 0 rfl rfl rfl) rfl (Ze 1 rfl rfl rfl) rfl (Za 1 rfl rfl) rfl (Za 1 rfl rfl) rfl ?_; clear T ac; intro ac T
   replace T := T.pick [0, 1, 9, 10, 11, 12, 13, 14, 15] rfl
   refine Zln ?_
   refine wp_seq ?_
   refine Zsr ?_
   refine Zg2 T (Zq (Zrm rfl (T.e 0 rfl))) rfl (fun _ T => Zq (rn_not rfl (T.e 0 rfl))) rfl ?_; clear T ac; intro ac T
   replace T := T.pick [0, 3, 4, 5, 6, 7, 8, 9, 10] rfl
   refine Zln ?_
   refine wp_cond_split (T.e 0 rfl) ?_ ?_
   ·intro h5
    (have h5' := h5; try simp only [Zb1, Zb2, Zb3, Zb4, Zb5, Zb6, Zb7] at h5')
    refine Zsr ?_
    refine lq T (Zra rfl evc) ?_; clear T ac; intro ac T
    refine wpList_nil ?_
    replace T := T.pick [0] rfl
    replace M := M.mask [false, true] rfl
    replace M : Mem w exq wc ((bj, .cells (jobL j A c)) :: (I0 ++ Iu1 ++ It ++ Jt)) := M
    refine Znr ?_
    refine Zrt ?_
    refine Zrt ?_
    refine Zrb ?_
    refine Zrt ?_
    refine Zrt ?_
    refine Zrb ?_
    refine Zrt ?_
    refine rt_1 T rfl (T.e 0 rfl) ?_
    have hwp := word_bad (isSome_not (o := numP p) (by assumption))
    rw [Zdf (by omega : ¬ i < 4), hwp] at H
    exact LineP.none (L := (bj, .cells (jobL j A c)) :: I0) (H.trans rfl) ((show Mem w exq wc ((bj, .cells (jobL j A c)) :: (I0 ++ Iu1 ++ It ++ Jt)) from M.permT [0] 1 rfl rfl rfl rfl).sub (List.Sublist.cons_cons _ (subL (subL (subL (List.Sublist.refl _)))))) ⟨A, c, I0, rfl, hsl⟩
   intro h5
   (have h5' := h5; try simp only [Zb1, Zb2, Zb3, Zb4, Zb5, Zb6, Zb7] at h5')
   refine Zsk ?_
   refine Zsr ?_
   refine Zg2 T (Zq (Zrm rfl (T.e 5 rfl))) rfl (Zm 2 rfl rfl) rfl ?_; clear T ac; intro ac T
   refine Zl2 ?_
   refine ow_bs (e := 3) [.int .i64 nu2] M T rfl rfl rfl rfl (.cons (T.e 0 rfl) .nil) (fun _ => by kernel_rfl) ?_; clear M T; intro g2 wc ac M T
   refine Zl2 ?_
   refine ow_app (((g2, .cells [.int .i64 nu2]) :: (g1, .cells [sv fileW, .int .i64 4, .int .i64 1, .func (.func 124) #[] #[]]) :: (bj, .cells (jobL j A c)) :: (I0 ++ Iu1 ++ It))) Tryz.info3 hsln M (by first | rfl | simp) T rfl rfl rfl rfl Tryz.underlying31 rfl rfl rfl (by omega) (T.e 2 rfl) (T.e 0 rfl) (Zne (i := 0) rfl) rfl rfl ?_; clear M T; intro ga1 cga1 wc ac M T
   refine l_q (v := (.slice (some ⟨ga1, 0, none⟩) (ns.length + 1) cga1)) (T.pick [0, 1, 2, 3, 4, 5, 6, 7, 8, 10, 11, 12] rfl) rfl rfl rfl rfl (Zra rfl (T.e 0 rfl)) ?_; clear T ac; intro ac T
   refine wpList_nil ?_
   replace T := T.pick [0, 7, 8, 9, 10, 11, 12] rfl
   replace M := M.mask [true, false, true, true] rfl
   replace M : Mem w exq wc ((ga1, .row 3 1 (ns.length + 1) ((ic ns) ++ [.int .i64 nu2]) cga1) :: (g1, .cells [sv fileW, .int .i64 4, .int .i64 1, .func (.func 124) #[] #[]]) :: (bj, .cells (jobL j A c)) :: (I0 ++ Iu1 ++ It)) := M
   refine nm_then ?_
   refine wp_exit ?_
   refine Zet ?_
   refine ex_hit ?_
   refine nm_then ?_
   refine wp_region_lit ?_
   refine lq T (rn_add rfl (T.e 6 rfl) evc (by omega)) ?_; clear T ac; intro ac T
   refine l_q (v := (.int .i64 ((i : Int) + 1))) (T.pick [0, 1, 2, 3, 4, 5, 6] rfl) rfl rfl rfl rfl (Zrm rfl (T.e 0 rfl)) ?_; clear T ac; intro ac T
   replace T := T.pick [0, 2, 3, 4, 5, 6, 7] rfl
   refine Zln ?_
   have e9 : ns.length + 1 = (ns ++ [nu2]).length := by simp
   have e8 : ((ic ns) ++ [.int .i64 nu2]) = ic (ns ++ [nu2]) := by rw [← ic_snoc]
   rw [e9, e8] at M
   rw [e9] at T
   clear e9 e8
   have hwp := word_num (isSome_val (hvu2) (by assumption))
   rw [Zdf (by omega : ¬ i < 4), hwp, andR_put, List.append_assoc] at H
   exact ⟨_, by omega, i + 1, xs, (ns ++ [nu2]), At, ct, It, _, _, [(ga1, .row 3 1 (ns ++ [nu2]).length (ic (ns ++ [nu2])) cga1)], rfl, (by omega), H, hslx, (Sl.row _ _ _ _ _ _), (by simp only [List.length_append, List.length_cons, List.length_nil]; omega), (fun h => by omega), (fun h => by omega), T.pick [2, 3, 4, 1, 5, 6, 0] rfl, (Mem.spinW [(g1, .cells [sv fileW, .int .i64 4, .int .i64 1, .func (.func 124) #[] #[]]), (bj, .cells (jobL j A c))] [(ga1, .row 3 1 (ns ++ [nu2]).length (ic (ns ++ [nu2])) cga1)] (I0 ++ Iu1 ++ It) (M.permT [1, 2, 0] 3 rfl rfl rfl rfl))⟩
  intro h4
  replace M : Mem w exq wc ((g1, .cells [sv fileW, .int .i64 4, .int .i64 1, .func (.func 124) #[] #[]]) :: (bj, .cells (jobL j A c)) :: (I0 ++ Iu1 ++ Jt ++ It)) := Mem.lastTwo (X := [(g1, .cells [sv fileW, .int .i64 4, .int .i64 1, .func (.func 124) #[] #[]]), (bj, .cells (jobL j A c))] ++ (I0 ++ Iu1)) (Y := It) (Z := Jt) M
  refine Zsk ?_
  refine Zsr ?_
  refine lq T (Zrm rfl (T.e 1 rfl)) ?_; clear T ac; intro ac T
  refine Zl2 ?_
  refine Zoc (first := []) (cap := []) T rfl rfl rfl rfl evf (.cons (T.e 0 rfl) (.cons evc .nil)) Tryz.func129 rfl rfl ?_
  refine Calls.mono (Cut_any p [58] _ (by omega) (hT _ _ M)) ?_
  clear T; rintro e wc ⟨rfl, hb⟩ ac T
  replace M := M.call hb; clear hb
  have hcl := cut_len p
  refine Zg7 T (Zq (Zrm rfl (T.e 0 rfl))) rfl (Ze 0 rfl rfl rfl) rfl (Ze 1 rfl rfl rfl) rfl (Ze 2 rfl rfl rfl) rfl (Za 2 rfl rfl) rfl (Za 2 rfl rfl) rfl (Za 2 rfl rfl) rfl ?_; clear T ac; intro ac T
  replace T := T.pick [0, 1, 2, 11, 12, 13, 14, 15, 16, 17] rfl
  refine Zln ?_
  refine Zsr ?_
  refine lq T (Zrm rfl (T.e 2 rfl)) ?_; clear T ac; intro ac T
  refine Zl2 ?_
  refine Zoc (first := []) (cap := []) T rfl rfl rfl rfl evf (.cons (T.e 0 rfl) .nil) Tryz.func128 rfl rfl ?_
  refine Calls.mono (number_any ((Lib.cut p [58]).1) _ (by omega) (hT _ _ M)) ?_
  clear T; rintro e wc ⟨nu4, rfl, hvu4, hb⟩ ac T
  replace M := M.call hb; clear hb
  refine Zg5 T (Zq (Zrm rfl (T.e 0 rfl))) rfl (Ze 0 rfl rfl rfl) rfl (Ze 1 rfl rfl rfl) rfl (Za 1 rfl rfl) rfl (Za 1 rfl rfl) rfl ?_; clear T ac; intro ac T
  replace T := T.pick [0, 1, 7, 8, 10, 11, 12, 13, 14, 15, 16] rfl
  refine Zln ?_
  refine Zsr ?_
  refine lq T (Zrm rfl (T.e 3 rfl)) ?_; clear T ac; intro ac T
  refine Zl2 ?_
  refine Zoc (first := []) (cap := []) T rfl rfl rfl rfl evf (.cons (T.e 0 rfl) .nil) Tryz.func128 rfl rfl ?_
  refine Calls.mono (number_any ((Lib.cut p [58]).2.1) _ (by omega) (hT _ _ M)) ?_
  clear T; rintro e wc ⟨nu5, rfl, hvu5, hb⟩ ac T
  replace M := M.call hb; clear hb
  refine Zg5 T (Zq (Zrm rfl (T.e 0 rfl))) rfl (Ze 0 rfl rfl rfl) rfl (Ze 1 rfl rfl rfl) rfl (Za 1 rfl rfl) rfl (Za 1 rfl rfl) rfl ?_; clear T ac; intro ac T
  replace T := T.pick [0, 1, 7, 8, 9, 11, 12, 13, 14, 15, 16, 17] rfl
  refine Zln ?_
  refine wp_seq ?_
  refine cut_seq (fun ac wc => Tm ac 102 [(1, .pointer (some ⟨bj, 0, none⟩)), (3, .pointer (some ⟨g1, 0, none⟩)), (8, .slice At xs.length ct), (9, .slice Bt ns.length dt), (17, .int .i64 nu4), (19, .int .i64 nu5), (41, .slice Aq1 lq1.length (cu1 - 1)), (42, .int .i64 ((lq1.length : Nat) : Int)), (43, .int .i64 (i : Int)), (88, .bool ((!((Lib.cut p [58]).2.2)) || ((!((numP ((Lib.cut p [58]).1)).isSome)) || (!((numP ((Lib.cut p [58]).2.1)).isSome)))))] ∧ Mem w exq wc ((g1, .cells [sv fileW, .int .i64 4, .int .i64 1, .func (.func 124) #[] #[]]) :: (bj, .cells (jobL j A c)) :: (I0 ++ Iu1 ++ Jt ++ It))) ?_ ?_
  ·refine wp_region_lit ?_
   refine Zg3 T (Zq (Zrm rfl (T.e 4 rfl))) rfl (fun _ T => Zq (rn_not rfl (T.e 0 rfl))) rfl (Zm 0 rfl rfl) rfl ?_; clear T ac; intro ac T
   rcases Bool.eq_false_or_eq_true (!((Lib.cut p [58]).2.2)) with h6 | h6
   ·refine Zg7 T (Zp (Zwn rfl rfl (T.e 0 rfl) h6)) rfl (fun _ T => Zp (Zwn rfl rfl (T.e 1 rfl) h6)) rfl (fun _ T => Zq (Zr1 rfl (T.e 2 rfl) h6 evc)) rfl (Zm 0 rfl rfl) rfl (fun _ T => Zp (Zwn rfl rfl (T.e 0 rfl) rfl)) rfl (fun _ T => Zp (Zwn rfl rfl (T.e 1 rfl) rfl)) rfl (fun _ T => Zq (Zr1 rfl (T.e 2 rfl) rfl evc)) rfl ?_; clear T ac; intro ac T
    refine wpList_nil ?_
    replace T := T.pick [0, 1, 2, 5, 6, 11, 13, 15, 16, 17, 18, 19, 20, 21] rfl
    exact ⟨(T.pick (E' := [(1, .pointer (some ⟨bj, 0, none⟩)), (3, .pointer (some ⟨g1, 0, none⟩)), (8, .slice At xs.length ct), (9, .slice Bt ns.length dt), (17, .int .i64 nu4), (19, .int .i64 nu5), (41, .slice Aq1 lq1.length (cu1 - 1)), (42, .int .i64 ((lq1.length : Nat) : Int)), (43, .int .i64 (i : Int)), (88, .bool true)]) [7, 8, 9, 10, 6, 5, 11, 12, 13, 0] rfl).as (by (try rw [show (!((Lib.cut p [58]).2.2)) = true from h6]); (try rfl)), M.mask [true, true] rfl⟩
   refine Zg4 T (Zw (Zwy rfl rfl (T.e 0 rfl) h6) (Zrm rfl (T.e 5 rfl))) rfl (fun _ T => Zw (Zwy rfl rfl (T.e 1 rfl) h6) (rn_not rfl (T.e 0 rfl))) rfl (fun _ T => Zq (Zr0 rfl (T.e 2 rfl) h6 (T.e 0 rfl))) rfl (Zm 0 rfl rfl) rfl ?_; clear T ac; intro ac T
   rcases Bool.eq_false_or_eq_true (!((numP ((Lib.cut p [58]).1)).isSome)) with h7 | h7
   ·refine Zg3 T (Zp (Zwn rfl rfl (T.e 0 rfl) h7)) rfl (fun _ T => Zp (Zwn rfl rfl (T.e 1 rfl) h7)) rfl (fun _ T => Zq (Zr1 rfl (T.e 2 rfl) h7 evc)) rfl ?_; clear T ac; intro ac T
    refine wpList_nil ?_
    replace T := T.pick [0, 1, 2, 5, 6, 11, 13, 15, 16, 17, 18, 19, 20, 21] rfl
    exact ⟨(T.pick (E' := [(1, .pointer (some ⟨bj, 0, none⟩)), (3, .pointer (some ⟨g1, 0, none⟩)), (8, .slice At xs.length ct), (9, .slice Bt ns.length dt), (17, .int .i64 nu4), (19, .int .i64 nu5), (41, .slice Aq1 lq1.length (cu1 - 1)), (42, .int .i64 ((lq1.length : Nat) : Int)), (43, .int .i64 (i : Int)), (88, .bool true)]) [7, 8, 9, 10, 6, 5, 11, 12, 13, 0] rfl).as (by (try rw [show (!((Lib.cut p [58]).2.2)) = false from h6]); (try rw [show (!((numP ((Lib.cut p [58]).1)).isSome)) = true from h7]); (try rfl)), M.mask [true, true] rfl⟩
   refine Zg3 T (Zw (Zwy rfl rfl (T.e 0 rfl) h7) (Zrm rfl (T.e 7 rfl))) rfl (fun _ T => Zw (Zwy rfl rfl (T.e 1 rfl) h7) (rn_not rfl (T.e 0 rfl))) rfl (fun _ T => Zq (Zr0 rfl (T.e 2 rfl) h7 (T.e 0 rfl))) rfl ?_; clear T ac; intro ac T
   refine wpList_nil ?_
   replace T := T.pick [0, 1, 2, 5, 6, 11, 13, 15, 16, 17, 18, 19, 20, 21] rfl
   exact ⟨(T.pick (E' := [(1, .pointer (some ⟨bj, 0, none⟩)), (3, .pointer (some ⟨g1, 0, none⟩)), (8, .slice At xs.length ct), (9, .slice Bt ns.length dt), (17, .int .i64 nu4), (19, .int .i64 nu5), (41, .slice Aq1 lq1.length (cu1 - 1)), (42, .int .i64 ((lq1.length : Nat) : Int)), (43, .int .i64 (i : Int)), (88, .bool (!((numP ((Lib.cut p [58]).2.1)).isSome)))]) [7, 8, 9, 10, 6, 5, 11, 12, 13, 0] rfl).as (by (try rw [show (!((Lib.cut p [58]).2.2)) = false from h6]); (try rw [show (!((numP ((Lib.cut p [58]).1)).isSome)) = false from h7]); (try rfl)), M.mask [true, true] rfl⟩
  clear T M
  rintro ac wc ⟨T, M⟩
  refine wp_cond_split (T.e 9 rfl) ?_ ?_
  ·intro h8
   (have h8' := h8; try simp only [Zb1, Zb2, Zb3, Zb4, Zb5, Zb6, Zb7] at h8')
   refine Zsr ?_
   refine lq T (Zra rfl evc) ?_; clear T ac; intro ac T
   refine wpList_nil ?_
   replace T := T.pick [0] rfl
   replace M := M.mask [false, true] rfl
   replace M : Mem w exq wc ((bj, .cells (jobL j A c)) :: (I0 ++ Iu1 ++ Jt ++ It)) := M
   refine Znr ?_
   refine Zrt ?_
   refine Zrb ?_
   refine Zrt ?_
   refine Zrt ?_
   refine Zrb ?_
   refine Zrt ?_
   refine rt_1 T rfl (T.e 0 rfl) ?_
   have hwp := word_norg2 (p := p) (by assumption)
   rw [Zdt (by omega : i < 4), hwp] at H
   exact LineP.none (L := (bj, .cells (jobL j A c)) :: I0) (H.trans rfl) ((show Mem w exq wc ((bj, .cells (jobL j A c)) :: (I0 ++ Iu1 ++ Jt ++ It)) from M.permT [0] 1 rfl rfl rfl rfl).sub (List.Sublist.cons_cons _ (subL (subL (subL (List.Sublist.refl _)))))) ⟨A, c, I0, rfl, hsl⟩
  intro h8
  (have h8' := h8; try simp only [Zb1, Zb2, Zb3, Zb4, Zb5, Zb6, Zb7] at h8')
  refine Zsk ?_
  refine wp_region_lit ?_
  refine Zg4 (v4 := (.agg #[.int .i64 nu4, .int .i64 nu5])) T (Zq (Zrm rfl (T.e 2 rfl))) rfl (Zm 5 rfl rfl) rfl (Zm 7 rfl rfl) rfl (fun _ T => Zq (rn_build rfl (.cons (T.e 1 rfl) (.cons (T.e 0 rfl) .nil)) (fun _ => by kernel_rfl))) rfl ?_; clear T ac; intro ac T
  refine Zl2 ?_
  refine ow_bs (e := 23) [.int .i64 nu4, .int .i64 nu5] M T rfl rfl rfl rfl (.cons (T.e 0 rfl) .nil) (fun _ => by kernel_rfl) ?_; clear M T; intro g3 wc ac M T
  refine Zl2 ?_
  refine ow_app (((g3, .cells [.int .i64 nu4, .int .i64 nu5]) :: (g1, .cells [sv fileW, .int .i64 4, .int .i64 1, .func (.func 124) #[] #[]]) :: (bj, .cells (jobL j A c)) :: (I0 ++ Iu1 ++ Jt))) Tryz.info23 hslx M (by first | rfl | simp) T rfl rfl rfl rfl Tryz.underlying28 rfl rfl rfl (by omega) (T.e 4 rfl) (T.e 0 rfl) (Zne (i := 0) rfl) rfl rfl ?_; clear M T; intro ga2 cga2 wc ac M T
  refine l_q (v := (.slice (some ⟨ga2, 0, none⟩) (xs.length + 1) cga2)) (T.pick [0, 1, 2, 3, 4, 5, 6, 7, 9, 10, 11, 12, 13, 14, 15] rfl) rfl rfl rfl rfl (Zra rfl (T.e 0 rfl)) ?_; clear T ac; intro ac T
  refine wpList_nil ?_
  replace T := T.pick [0, 7, 8, 9, 12, 13, 14] rfl
  replace M := M.mask [true, false, true, true] rfl
  replace M : Mem w exq wc ((ga2, .row 23 2 (xs.length + 1) ((rc xs) ++ [.int .i64 nu4, .int .i64 nu5]) cga2) :: (g1, .cells [sv fileW, .int .i64 4, .int .i64 1, .func (.func 124) #[] #[]]) :: (bj, .cells (jobL j A c)) :: (I0 ++ Iu1 ++ Jt)) := M
  refine Znb ?_
  refine nm_then ?_
  refine wp_region_lit ?_
  refine lq T (rn_add rfl (T.e 6 rfl) evc (by omega)) ?_; clear T ac; intro ac T
  refine l_q (v := (.int .i64 ((i : Int) + 1))) (T.pick [0, 1, 2, 3, 4, 5, 6] rfl) rfl rfl rfl rfl (Zrm rfl (T.e 0 rfl)) ?_; clear T ac; intro ac T
  replace T := T.pick [0, 2, 3, 4, 5, 6, 7] rfl
  refine Zln ?_
  have e9 : xs.length + 1 = (xs ++ [(nu4, nu5)]).length := by simp
  have e8 : ((rc xs) ++ [.int .i64 nu4, .int .i64 nu5]) = rc (xs ++ [(nu4, nu5)]) := by first | rw [rc_snoc] | rw [← rc_snoc]
  rw [e9, e8] at M
  rw [e9] at T
  clear e9 e8
  have hwp := word_rgok (p := p) (by assumption) hvu4 hvu5
  rw [Zdt (by omega : i < 4), hwp, andR_put, flatR_more nu4 nu5 (by omega)] at H
  exact ⟨_, by omega, i + 1, (xs ++ [(nu4, nu5)]), ns, _, _, [(ga2, .row 23 2 (xs ++ [(nu4, nu5)]).length (rc (xs ++ [(nu4, nu5)])) cga2)], Bt, dt, Jt, rfl, (by omega), H, (Sl.row _ _ _ _ _ _), hsln, (by simp only [List.length_append, List.length_cons, List.length_nil]; omega), (fun h => by omega), (fun h => by simp only [List.length_append, List.length_cons, List.length_nil]; omega), T.pick [2, 3, 1, 4, 5, 6, 0] rfl, (Mem.lastTwo (X := [(g1, .cells [sv fileW, .int .i64 4, .int .i64 1, .func (.func 124) #[] #[]]), (bj, .cells (jobL j A c))] ++ (I0 ++ Iu1)) (Y := Jt) (Z := [(ga2, .row 23 2 (xs ++ [(nu4, nu5)]).length (rc (xs ++ [(nu4, nu5)])) cga2)]) (Mem.spinW [(g1, .cells [sv fileW, .int .i64 4, .int .i64 1, .func (.func 124) #[] #[]]), (bj, .cells (jobL j A c))] [(ga2, .row 23 2 (xs ++ [(nu4, nu5)]).length (rc (xs ++ [(nu4, nu5)])) cga2)] (I0 ++ Iu1 ++ Jt) (M.permT [1, 2, 0] 3 rfl rfl rfl rfl)))⟩
 intro h3
 refine wp_exit ?_
 refine Zet ?_
 refine Zet ?_
 refine ex_hit ?_
 refine nm_then ?_
 refine Zsr ?_
 refine Zg5 (v1 := (.pointer (some ⟨g1, 3, none⟩))) T (Zq (Zrf (off := 3) rfl (T.e 2 rfl) (fun _ _ _ => by kernel_rfl))) rfl (Zo M 0 0 rfl rfl rfl rfl) rfl (Zm 3 rfl rfl) rfl (Zm 6 rfl rfl) rfl (Zm 8 rfl rfl) rfl ?_; clear T ac; intro ac T
 refine Zl2 ?_
 have hx3 : xs.length = 4 := by omega
 have hn3 : ns.length = 1 := by omega
 obtain ⟨u0, u1, d0, d1, a0, a1, b0, b1, rfl⟩ := len4 hx3
 obtain ⟨le, rfl⟩ := len1i hn3
 obtain ⟨bx, ox, SVx⟩ := hslx.spW rfl
 obtain ⟨by2, oy, SVy⟩ := hsln.spW rfl
 have hne := hslx.ne (M.sub (.cons _ (.cons_cons _ ((Zsq _ _).trans (Zsl _ Jt)))))
 have hne2 := hsln.ne (M.sub (.cons _ (.cons_cons _ (Zsq _ _))))
 refine Zoc (first := []) (cap := []) T rfl rfl rfl rfl (T.e 3 rfl) (.cons (T.e 2 rfl) (.cons (T.e 1 rfl) (.cons (T.e 0 rfl) .nil))) Tryz.func124 rfl rfl ?_
 refine Calls.mono (take1_any bj j A c At ct Bt dt u0 u1 d0 d1 a0 a1 b0 b1 le _ (M.nth 1 rfl) ((SVx w exq).rd M (.cons _ (.cons _ (subL (Zsq _ _))))) hne ((SVy w exq).rd M (.cons _ (.cons _ (Zsq _ _)))) hne2) ?_
 clear T; rintro e wc ⟨rfl, N⟩ ac T
 replace M := Mem.joinX (X := [(bj, .cells [.int .i64 j.p0, .int .i64 j.p1, .int .i64 j.t0, .int .i64 j.t1, .int .i64 j.r0, .int .i64 j.r1, .int .i64 j.u0, .int .i64 j.u1, .int .i64 j.d0, .int .i64 j.d1, .int .i64 j.a0, .int .i64 j.a1, .int .i64 j.b0, .int .i64 j.b1, .int .i64 j.le, .slice A j.sh.length c, .int .i64 j.wi, .int .i64 j.me])]) (F := ((g1, .cells [sv fileW, .int .i64 4, .int .i64 1, .func (.func 124) #[] #[]]) :: (I0 ++ Iu1 ++ It ++ Jt))) (M.permT [1, 0] 2 rfl rfl rfl rfl) N (fun b h => by subst h; exact Zz2)
 clear N
 replace M : Mem w exq wc ((bj, .cells [.int .i64 j.p0, .int .i64 j.p1, .int .i64 j.t0, .int .i64 j.t1, .int .i64 j.r0, .int .i64 j.r1, .int .i64 u0, .int .i64 u1, .int .i64 d0, .int .i64 d1, .int .i64 a0, .int .i64 a1, .int .i64 b0, .int .i64 b1, .int .i64 le, .slice A j.sh.length c, .int .i64 j.wi, .int .i64 j.me]) :: (g1, .cells [sv fileW, .int .i64 4, .int .i64 1, .func (.func 124) #[] #[]]) :: (I0 ++ Iu1 ++ It ++ Jt)) := M
 refine wpList_nil ?_
 replace T := T.pick [] rfl
 replace M := M.mask [true, false] rfl
 replace M : Mem w exq wc ((bj, .cells [.int .i64 j.p0, .int .i64 j.p1, .int .i64 j.t0, .int .i64 j.t1, .int .i64 j.r0, .int .i64 j.r1, .int .i64 u0, .int .i64 u1, .int .i64 d0, .int .i64 d1, .int .i64 a0, .int .i64 a1, .int .i64 b0, .int .i64 b1, .int .i64 le, .slice A j.sh.length c, .int .i64 j.wi, .int .i64 j.me]) :: (I0 ++ Iu1 ++ It ++ Jt)) := M
 refine nm_then ?_
 refine Zsr ?_
 refine lq T (Zra rfl evc) ?_; clear T ac; intro ac T
 refine Zln ?_
 refine wp_ret ?_
 refine rt_1 T rfl (T.e 0 rfl) ?_
 rw [List.drop_of_length_le (by rw [List.length_drop]; omega)] at H
 have hs9 : (lineA fileW 4 1 s) = some (flatR [(u0, u1), (d0, d1), (a0, a1), (b0, b1)] ++ [le]) := by rw [H]; cases 4 - i <;> simp [wordsA, andR]
 exact ⟨by rw [hs9]; rfl, (bj, .cells (jobL (putK 1 (flatR [(u0, u1), (d0, d1), (a0, a1), (b0, b1)] ++ [le]) j) A c)) :: I0, M.sub ((((Zsl I0 Iu1).trans (Zsl _ It)).trans (Zsl _ Jt)).cons_cons _), by rw [hs9]; exact ⟨A, c, I0, rfl, hsl⟩⟩
def kindC : List Value := [sv tongueW, .int .i64 3, .int .i64 0, .func (.func 123) #[] #[], sv fileW, .int .i64 4, .int .i64 1, .func (.func 124) #[] #[], sv shiftW, .int .i64 1, .int .i64 0, .func (.func 125) #[] #[], sv passW, .int .i64 0, .int .i64 2, .func (.func 126) #[] #[]]
theorem lines_any  (w : World)  :
  Calls Tryz.prog 53 #[] w fun e w' => ∃ g, e = .returned (.slice (some ⟨g, 0, none⟩) 4 4) ∧ Mem w noEx w' [(g, .cells kindC)] := by
 refine Zpx noEx Tryz.func53 rfl 6 rfl [] rfl rfl (Mem.init w _) ?_
 intro ac wc T M
 refine Zsr ?_
 refine lq T (Zra rfl evc) ?_; clear T ac; intro ac T
 replace T := T.pick [] rfl
 refine Zln ?_
 refine Zsr ?_
 refine Zg4 (v1 := (.agg #[sv ([116, 111, 110, 103, 117, 101]), .int .i64 3, .int .i64 0, .func (.func 123) #[] #[]])) (v2 := (.agg #[sv ([102, 105, 108, 101]), .int .i64 4, .int .i64 1, .func (.func 124) #[] #[]])) (v3 := (.agg #[sv ([115, 104, 105, 102, 116]), .int .i64 1, .int .i64 0, .func (.func 125) #[] #[]])) (v4 := (.agg #[sv ([112, 97, 115, 115]), .int .i64 0, .int .i64 2, .func (.func 126) #[] #[]])) T (Zq (rn_build rfl (.cons evc (.cons evc (.cons evc (.cons evf .nil)))) (fun _ => by kernel_rfl))) rfl (fun _ T => Zq (rn_build rfl (.cons evc (.cons evc (.cons evc (.cons evf .nil)))) (fun _ => by kernel_rfl))) rfl (fun _ T => Zq (rn_build rfl (.cons evc (.cons evc (.cons evc (.cons evf .nil)))) (fun _ => by kernel_rfl))) rfl (fun _ T => Zq (rn_build rfl (.cons evc (.cons evc (.cons evc (.cons evf .nil)))) (fun _ => by kernel_rfl))) rfl ?_; clear T ac; intro ac T
 refine Zl2 ?_
 refine ow_bs (e := 102) [sv ([116, 111, 110, 103, 117, 101]), .int .i64 3, .int .i64 0, .func (.func 123) #[] #[], sv ([102, 105, 108, 101]), .int .i64 4, .int .i64 1, .func (.func 124) #[] #[], sv ([115, 104, 105, 102, 116]), .int .i64 1, .int .i64 0, .func (.func 125) #[] #[], sv ([112, 97, 115, 115]), .int .i64 0, .int .i64 2, .func (.func 126) #[] #[]] M T rfl rfl rfl rfl (.cons (T.e 3 rfl) (.cons (T.e 2 rfl) (.cons (T.e 1 rfl) (.cons (T.e 0 rfl) .nil)))) (fun _ => by kernel_rfl) ?_; clear M T; intro g1 wc ac M T
 refine lq T (Zra rfl (T.e 0 rfl)) ?_; clear T ac; intro ac T
 replace T := T.pick [0] rfl
 refine Zln ?_
 refine wp_ret ?_
 refine rt_1 T rfl (T.e 0 rfl) ?_
 exact ⟨g1, rfl, M⟩
def kindV : Nat → Value
 | 0 => (.agg #[sv tongueW, .int .i64 3, .int .i64 0, .func (.func 123) #[] #[]])
 | 1 => (.agg #[sv fileW, .int .i64 4, .int .i64 1, .func (.func 124) #[] #[]])
 | 2 => (.agg #[sv shiftW, .int .i64 1, .int .i64 0, .func (.func 125) #[] #[]])
 | _ => (.agg #[sv passW, .int .i64 0, .int .i64 2, .func (.func 126) #[] #[]])
theorem readK_any (k : Nat) (hk : k < 4) (s : List UInt8) (bj : Nat) (j : Jb) (A : Option Addr) (c : Nat) (I0 : List (Nat × BA)) (exq : Nat → Prop) (w : World) (hs : s.length ≤ 800000) (hj : j.sh.length ≤ 800000) (hT : ∀ wc L, Mem w exq wc L → StrW wc) (hsl : Sl 23 2 (.slice A j.sh.length c) j.sh.length (rc j.sh) I0) (M0 : Mem w exq w ((bj, .cells (jobL j A c)) :: I0)) :
  Calls Tryz.prog 55 #[kindV k, .pointer (some ⟨bj, 0, none⟩), sv s] w (LineP ((kdAt KT KF KS KP k).rd s) w exq bj k j) := by
 match k, hk with
 | 0, _ => exact read0_any s bj j A c I0 exq w hs hT hsl M0
 | 1, _ => exact read1_any s bj j A c I0 exq w hs hT hsl M0
 | 2, _ => exact read2_any s bj j A c I0 exq w hs hj hT hsl M0
 | 3, _ => exact read3_any s bj j A c I0 exq w hs hT hsl M0
def RdE.app (l : List (Nat × List Int)) (r : RdE) : RdE := l.foldr (fun x r => r.cons x) r
theorem app_bad (l : List (Nat × List Int)) (q : Nat) : (RdE.bad q).app l = .bad q := by
 induction l with
 | nil => rfl
 | cons x l ih => show RdE.cons x (RdE.app l (RdE.bad q)) = _; rw [ih]; rfl
theorem app_ok (l m : List (Nat × List Int)) (d : Bool) : (RdE.ok d m).app l = .ok d (l ++ m) := by
 induction l with
 | nil => rfl
 | cons x l ih => show RdE.cons x (RdE.app l (RdE.ok d m)) = _; rw [ih]; rfl
theorem app_cons (l : List (Nat × List Int)) (x : Nat × List Int) (r : RdE) : (r.cons x).app l = r.app (l ++ [x]) := by
 unfold RdE.app
 rw [List.foldr_append]
 rfl
theorem foldK_snoc (l : List (Nat × List Int)) (k : Nat) (x : List Int) (j : Jb) : foldK (l ++ [(k, x)]) j = putK k x (foldK l j) := by
 unfold foldK
 rw [List.foldl_append]
 rfl
theorem progL_at {K0 K1 K2 K3 : Kd} {sh : List UInt8} {at' i : Nat} {ls : List (List UInt8)} {s : List UInt8} (h : ls[i]? = some s) : progL K0 K1 K2 K3 sh at' i (ls.drop i) = if 4 ≤ nextAt sh at' s then .bad (i + 1) else match (kdAt K0 K1 K2 K3 (nextAt sh at' s)).rd s with
   | none => .bad (i + 1)
   | some x => (progL K0 K1 K2 K3 sh (if nextAt sh at' s ≠ 2 then nextAt sh at' s + 1 else nextAt sh at' s) (i + 1) (ls.drop (i + 1))).cons (nextAt sh at' s, x) := by
 rw [List.drop_eq_getElem_cons (List.getElem?_eq_some_iff.1 h).1, (List.getElem?_eq_some_iff.1 h).2]
 rfl
theorem putK_len (k : Nat) (x : List Int) (j : Jb) : (putK k x j).sh.length ≤ j.sh.length + 1 := by
 unfold putK
 split <;> simp
abbrev kR (p : Nat) : Int := ((kdAt KT KF KS KP p).rg : Int)
abbrev kN (p : Nat) : Int := ((kdAt KT KF KS KP p).nm : Int)
abbrev kW (p : Nat) : List UInt8 := (kdAt KT KF KS KP p).word
def kF : Nat → Value
 | 0 => (.func (.func 123) #[] #[])
 | 1 => (.func (.func 124) #[] #[])
 | 2 => (.func (.func 125) #[] #[])
 | _ => (.func (.func 126) #[] #[])
def kdE (p : Nat) : List Value := [sv (kW p), .int .i64 (kR p), .int .i64 (kN p), kF p]
def kd (l : List Nat) : List Value := l.flatMap kdE
theorem kd_get : ∀ (l : List Nat) (k : Nat) {x : Nat}, l[k]? = some x → ∀ (i : Nat) (v : Value), (kdE x)[i]? = some v → (kd l)[k * 4 + i]? = some v
 | [], k, x, h => by simp at h
 | y :: l, 0, x, h => by
  intro i v hv
  simp only [List.getElem?_cons_zero, Option.some.injEq] at h
  subst h
  show (kdE y ++ kd l)[0 * 4 + i]? = some v
  rw [Nat.zero_mul, Nat.zero_add, List.getElem?_append_left (List.getElem?_eq_some_iff.1 hv).1]
  exact hv
 | y :: l, k + 1, x, h => by
  intro i v hv
  have := kd_get l k (by simpa using h) i v hv
  show (kdE y ++ kd l)[(k + 1) * 4 + i]? = some v
  have e : (kdE y).length = 4 := rfl
  rw [List.getElem?_append_right (by rw [e]; omega), e, show (k + 1) * 4 + i - 4 = k * 4 + i by omega]
  exact this
section
variable {w w' : World} {ex : Nat → Prop} {I L : List (Nat × BA)} {n b o k : Nat} {A : Option Addr} {l : List Nat} {p : Nat}
theorem Sp.kdA (S : Sp w ex I A n 4 b o (kd l)) (M : Mem w ex w' L) (hI : I.Sublist L) (h : l[k]? = some p) (f : Nat) (v : Value) (hv : (kdE p)[f]? = some v) : w'.cell? ⟨b, o + k * 4 + f, none⟩ = some v := by
 have := S.cell w' L M hI _ _ (kd_get l k h f v hv)
 rwa [← Nat.add_assoc] at this
theorem Sp.kdR (S : Sp w ex I A n 4 b o (kd l)) (M : Mem w ex w' L) (hI : I.Sublist L) (h : l[k]? = some p) : w'.rangeAt b (o + k * 4) [sv (kW p), .int .i64 (kR p), .int .i64 (kN p), kF p] := fun j v hv => S.kdA M hI h j v hv
end
theorem kd_val (k : Nat) (hk : k < 4) : Value.agg #[sv (kW k), .int .i64 (kR k), .int .i64 (kN k), kF k] = kindV k := by
 match k, hk with
 | 0, _ => rfl
 | 1, _ => rfl
 | 2, _ => rfl
 | 3, _ => rfl
end Go.Proofs.YtmdbdaofjepelaaGreatDoor

