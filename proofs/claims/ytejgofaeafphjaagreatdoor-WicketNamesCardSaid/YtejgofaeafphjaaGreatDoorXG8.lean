import Derived.Shelf.Spec.TrailingZeros
import Derived.Shelf.Strconv.ErrVarAll
import Derived.Shelf.Strconv.Itoa0
import Derived.Shelf.Strconv.Itoa3
import Derived.Shelf.Strings.LastIndexAll
import Derived.Shelf.Strings.OnBuilder
import Derived.Shelf.Strings.Repeat
import Derived.Shelf.Strings.Replace
import Derived.Shelf.Strings.Search3
import Derived.Shelf.Strings.Split
import Derived.Shelf.Lays7
import Derived.Shelf.LaysM
import Derived.Shelf.LaysC
import Derived.Test.YtejgofaeafphjaaGreatDoorProg
import Derived.Test.YtejgofaeafphjaaGreatDoorXG7
import Derived.Test.YtejgofaeafphjaaGreatDoorXG1
import Derived.Test.YtejgofaeafphjaaGreatDoorXG5
import Derived.Test.YtejgofaeafphjaaGreatDoorXG3
set_option linter.unusedSimpArgs false
set_option linter.unusedVariables false
set_option linter.all false
set_option maxRecDepth 100000
set_option maxHeartbeats 4000000
attribute [local irreducible] Go.W.WL Go.W.WLF Go.W.WC Go.W.WCF Go.W.WP Go.W.WA Go.W.WQ Go.W.WH Go.W.WHo Go.W.WCn Go.Code.wp Go.Code.wpIn
namespace Go.Proofs.YtejgofaeafphjaaGreatDoor
open Go.Shelf
def laysM171_ren : Go.Shelf.Ren := ⟨fun | 171 => 62 | 243 => 144 | 246 => 217 | 283 => 266 | 284 => 267 | 285 => 268 | 286 => 269 | 129 => 233 | 317 => 291 | 318 => 292 | 319 => 293 | 320 => 294 | 337 => 306 | 338 => 232 | n => n, fun | 3 => 3 | 9 => 9 | 2 => 2 | 4 => 4 | 171 => 351 | 0 => 0 | 53 => 233 | 37 => 188 | 5 => 5 | 173 => 353 | 212 => 386 | 51 => 280 | 20 => 20 | 213 => 387 | 46 => 200 | 232 => 415 | 233 => 361 | n => n, fun | 17 => 7 | 18 => 10 | 19 => 6 | n => n⟩
theorem laysM171 : Go.Proofs.LaysM.n171 Tryz.prog laysM171_ren := {
  mixed := by kernel_rfl
  f129 := Tryz.func233.trans (congrArg some (by kernel_rfl))
  f171 := Tryz.func62.trans (congrArg some (by kernel_rfl))
  f243 := Tryz.func144.trans (congrArg some (by kernel_rfl))
  f246 := Tryz.func217.trans (congrArg some (by kernel_rfl))
  f283 := Tryz.func266.trans (congrArg some (by kernel_rfl))
  f284 := Tryz.func267.trans (congrArg some (by kernel_rfl))
  f285 := Tryz.func268.trans (congrArg some (by kernel_rfl))
  f286 := Tryz.func269.trans (congrArg some (by kernel_rfl))
  f317 := Tryz.func291.trans (congrArg some (by kernel_rfl))
  f318 := Tryz.func292.trans (congrArg some (by kernel_rfl))
  f319 := Tryz.func293.trans (congrArg some (by kernel_rfl))
  f320 := Tryz.func294.trans (congrArg some (by kernel_rfl))
  f337 := Tryz.func306.trans (congrArg some (by kernel_rfl))
  f338 := Tryz.func232.trans (congrArg some (by kernel_rfl))
  t0 := Tryz.underlying0
  a0 := Tryz.isAgg0
  z0 := Tryz.sizeOf0
  v0 := Tryz.zeroValue0
  t2 := Tryz.underlying2
  a2 := Tryz.isAgg2
  z2 := Tryz.sizeOf2
  v2 := Tryz.zeroValue2
  t3 := Tryz.underlying3
  a3 := Tryz.isAgg3
  z3 := Tryz.sizeOf3
  v3 := Tryz.zeroValue3
  t4 := Tryz.underlying4
  a4 := Tryz.isAgg4
  z4 := Tryz.sizeOf4
  v4 := Tryz.zeroValue4
  t5 := Tryz.underlying5
  a5 := Tryz.isAgg5
  z5 := Tryz.sizeOf5
  v5 := Tryz.zeroValue5
  t9 := Tryz.underlying9
  a9 := Tryz.isAgg9
  z9 := Tryz.sizeOf9
  v9 := Tryz.zeroValue9
  t20 := Tryz.underlying20
  a20 := Tryz.isAgg20
  z20 := Tryz.sizeOf20
  v20 := Tryz.zeroValue20
  t37 := Tryz.underlying188
  a37 := Tryz.isAgg188
  z37 := Tryz.sizeOf188
  v37 := Tryz.zeroValue188
  t46 := Tryz.underlying200
  a46 := Tryz.isAgg200
  z46 := Tryz.sizeOf200
  v46 := Tryz.zeroValue200
  t51 := Tryz.underlying280
  a51 := Tryz.isAgg280
  z51 := Tryz.sizeOf280
  v51 := Tryz.zeroValue280
  t53 := Tryz.underlying233
  a53 := Tryz.isAgg233
  z53 := Tryz.sizeOf233
  v53 := Tryz.zeroValue233
  t171 := Tryz.underlying351
  a171 := Tryz.isAgg351
  z171 := Tryz.sizeOf351
  v171 := Tryz.zeroValue351
  t173 := Tryz.underlying353
  a173 := Tryz.isAgg353
  z173 := Tryz.sizeOf353
  v173 := Tryz.zeroValue353
  t212 := Tryz.underlying386
  a212 := Tryz.isAgg386
  z212 := Tryz.sizeOf386
  v212 := Tryz.zeroValue386
  t213 := Tryz.underlying387
  a213 := Tryz.isAgg387
  z213 := Tryz.sizeOf387
  t232 := Tryz.underlying415
  a232 := Tryz.isAgg415
  z232 := Tryz.sizeOf415
  v232 := Tryz.zeroValue415
  t233 := Tryz.underlying361
  a233 := Tryz.isAgg361
  z233 := Tryz.sizeOf361
  v233 := Tryz.zeroValue361
  g17 := by kernel_rfl
  g18 := by kernel_rfl
  g19 := by kernel_rfl
  i0 := by kernel_rfl
  i2 := by kernel_rfl
  i3 := by kernel_rfl
  i4 := by kernel_rfl
  i5 := by kernel_rfl
  i9 := by kernel_rfl
  i20 := by kernel_rfl
  i37 := by kernel_rfl
  i46 := by kernel_rfl
  i51 := by kernel_rfl
  i53 := by kernel_rfl
  i171 := by kernel_rfl
  i173 := by kernel_rfl
  i212 := by kernel_rfl
  i232 := by kernel_rfl
  i233 := by kernel_rfl
  m17 := by kernel_rfl
  m18 := by kernel_rfl
  m19 := by kernel_rfl }
def laysC172_ren : Go.Shelf.Ren := ⟨fun | 172 => 228 | 244 => 274 | 245 => 275 | 247 => 295 | 279 => 296 | 280 => 297 | 281 => 298 | 282 => 299 | 287 => 307 | 316 => 308 | 171 => 62 | 205 => 309 | 321 => 315 | 322 => 316 | 243 => 144 | 246 => 217 | 283 => 266 | 284 => 267 | 285 => 268 | 286 => 269 | 129 => 233 | 317 => 291 | 318 => 292 | 319 => 293 | 320 => 294 | 337 => 306 | 338 => 232 | n => n, fun | 9 => 9 | 3 => 3 | 75 => 193 | 76 => 194 | 4 => 4 | 5 => 5 | 167 => 389 | 37 => 188 | 0 => 0 | 85 => 390 | 2 => 2 | 168 => 392 | 53 => 233 | 175 => 406 | 46 => 200 | 210 => 409 | 127 => 276 | 145 => 419 | 143 => 417 | 21 => 21 | 171 => 351 | 173 => 353 | 212 => 386 | 51 => 280 | 20 => 20 | 213 => 387 | 232 => 415 | 233 => 361 | 80 => 197 | n => n, fun | 15 => 8 | 16 => 9 | 17 => 7 | 18 => 10 | 19 => 6 | n => n⟩
theorem laysC172 : Go.Proofs.LaysC.n172 Tryz.prog laysC172_ren := {
  mixed := by kernel_rfl
  f129 := Tryz.func233.trans (congrArg some (by kernel_rfl))
  f171 := Tryz.func62.trans (congrArg some (by kernel_rfl))
  f172 := Tryz.func228.trans (congrArg some (by kernel_rfl))
  f205 := Tryz.func309.trans (congrArg some (by kernel_rfl))
  f243 := Tryz.func144.trans (congrArg some (by kernel_rfl))
  f244 := Tryz.func274.trans (congrArg some (by kernel_rfl))
  f245 := Tryz.func275.trans (congrArg some (by kernel_rfl))
  f246 := Tryz.func217.trans (congrArg some (by kernel_rfl))
  f247 := Tryz.func295.trans (congrArg some (by kernel_rfl))
  f279 := Tryz.func296.trans (congrArg some (by kernel_rfl))
  f280 := Tryz.func297.trans (congrArg some (by kernel_rfl))
  f281 := Tryz.func298.trans (congrArg some (by kernel_rfl))
  f282 := Tryz.func299.trans (congrArg some (by kernel_rfl))
  f283 := Tryz.func266.trans (congrArg some (by kernel_rfl))
  f284 := Tryz.func267.trans (congrArg some (by kernel_rfl))
  f285 := Tryz.func268.trans (congrArg some (by kernel_rfl))
  f286 := Tryz.func269.trans (congrArg some (by kernel_rfl))
  f287 := Tryz.func307.trans (congrArg some (by kernel_rfl))
  f316 := Tryz.func308.trans (congrArg some (by kernel_rfl))
  f317 := Tryz.func291.trans (congrArg some (by kernel_rfl))
  f318 := Tryz.func292.trans (congrArg some (by kernel_rfl))
  f319 := Tryz.func293.trans (congrArg some (by kernel_rfl))
  f320 := Tryz.func294.trans (congrArg some (by kernel_rfl))
  f321 := Tryz.func315.trans (congrArg some (by kernel_rfl))
  f322 := Tryz.func316.trans (congrArg some (by kernel_rfl))
  f337 := Tryz.func306.trans (congrArg some (by kernel_rfl))
  f338 := Tryz.func232.trans (congrArg some (by kernel_rfl))
  t0 := Tryz.underlying0
  a0 := Tryz.isAgg0
  z0 := Tryz.sizeOf0
  v0 := Tryz.zeroValue0
  t2 := Tryz.underlying2
  a2 := Tryz.isAgg2
  z2 := Tryz.sizeOf2
  v2 := Tryz.zeroValue2
  t3 := Tryz.underlying3
  a3 := Tryz.isAgg3
  z3 := Tryz.sizeOf3
  v3 := Tryz.zeroValue3
  t4 := Tryz.underlying4
  a4 := Tryz.isAgg4
  z4 := Tryz.sizeOf4
  v4 := Tryz.zeroValue4
  t5 := Tryz.underlying5
  a5 := Tryz.isAgg5
  z5 := Tryz.sizeOf5
  v5 := Tryz.zeroValue5
  t9 := Tryz.underlying9
  a9 := Tryz.isAgg9
  z9 := Tryz.sizeOf9
  v9 := Tryz.zeroValue9
  t20 := Tryz.underlying20
  a20 := Tryz.isAgg20
  z20 := Tryz.sizeOf20
  v20 := Tryz.zeroValue20
  t21 := Tryz.underlying21
  a21 := Tryz.isAgg21
  z21 := Tryz.sizeOf21
  v21 := Tryz.zeroValue21
  t37 := Tryz.underlying188
  a37 := Tryz.isAgg188
  z37 := Tryz.sizeOf188
  v37 := Tryz.zeroValue188
  t46 := Tryz.underlying200
  a46 := Tryz.isAgg200
  z46 := Tryz.sizeOf200
  v46 := Tryz.zeroValue200
  t51 := Tryz.underlying280
  a51 := Tryz.isAgg280
  z51 := Tryz.sizeOf280
  v51 := Tryz.zeroValue280
  t53 := Tryz.underlying233
  a53 := Tryz.isAgg233
  z53 := Tryz.sizeOf233
  v53 := Tryz.zeroValue233
  t75 := Tryz.underlying193
  a75 := Tryz.isAgg193
  z75 := Tryz.sizeOf193
  v75 := Tryz.zeroValue193
  t76 := Tryz.underlying194
  a76 := Tryz.isAgg194
  z76 := Tryz.sizeOf194
  v76 := Tryz.zeroValue194
  t85 := Tryz.underlying390
  a85 := Tryz.isAgg390
  z85 := Tryz.sizeOf390
  v85 := Tryz.zeroValue390
  t127 := Tryz.underlying276
  a127 := Tryz.isAgg276
  z127 := Tryz.sizeOf276
  v127 := Tryz.zeroValue276
  t143 := Tryz.underlying417
  a143 := Tryz.isAgg417
  z143 := Tryz.sizeOf417
  v143 := Tryz.zeroValue417
  t145 := Tryz.underlying419
  a145 := Tryz.isAgg419
  z145 := Tryz.sizeOf419
  v145 := Tryz.zeroValue419
  t167 := Tryz.underlying389
  a167 := Tryz.isAgg389
  z167 := Tryz.sizeOf389
  v167 := Tryz.zeroValue389
  t168 := Tryz.underlying392
  a168 := Tryz.isAgg392
  z168 := Tryz.sizeOf392
  v168 := Tryz.zeroValue392
  t171 := Tryz.underlying351
  a171 := Tryz.isAgg351
  z171 := Tryz.sizeOf351
  v171 := Tryz.zeroValue351
  t173 := Tryz.underlying353
  a173 := Tryz.isAgg353
  z173 := Tryz.sizeOf353
  v173 := Tryz.zeroValue353
  t175 := Tryz.underlying406
  a175 := Tryz.isAgg406
  z175 := Tryz.sizeOf406
  v175 := Tryz.zeroValue406
  t210 := Tryz.underlying409
  a210 := Tryz.isAgg409
  z210 := Tryz.sizeOf409
  v210 := Tryz.zeroValue409
  t212 := Tryz.underlying386
  a212 := Tryz.isAgg386
  z212 := Tryz.sizeOf386
  v212 := Tryz.zeroValue386
  t213 := Tryz.underlying387
  a213 := Tryz.isAgg387
  z213 := Tryz.sizeOf387
  t232 := Tryz.underlying415
  a232 := Tryz.isAgg415
  z232 := Tryz.sizeOf415
  v232 := Tryz.zeroValue415
  t233 := Tryz.underlying361
  a233 := Tryz.isAgg361
  z233 := Tryz.sizeOf361
  v233 := Tryz.zeroValue361
  g15 := by kernel_rfl
  g16 := by kernel_rfl
  g17 := by kernel_rfl
  g18 := by kernel_rfl
  g19 := by kernel_rfl
  t80 := Tryz.underlying197
  a80 := Tryz.isAgg197
  z80 := Tryz.sizeOf197
  v80 := Tryz.zeroValue197
  i0 := by kernel_rfl
  i2 := by kernel_rfl
  i3 := by kernel_rfl
  i4 := by kernel_rfl
  i5 := by kernel_rfl
  i9 := by kernel_rfl
  i20 := by kernel_rfl
  i21 := by kernel_rfl
  i37 := by kernel_rfl
  i46 := by kernel_rfl
  i51 := by kernel_rfl
  i53 := by kernel_rfl
  i75 := by kernel_rfl
  i76 := by kernel_rfl
  i80 := by kernel_rfl
  i85 := by kernel_rfl
  i127 := by kernel_rfl
  i143 := by kernel_rfl
  i145 := by kernel_rfl
  i167 := by kernel_rfl
  i168 := by kernel_rfl
  i171 := by kernel_rfl
  i173 := by kernel_rfl
  i175 := by kernel_rfl
  i210 := by kernel_rfl
  i212 := by kernel_rfl
  i232 := by kernel_rfl
  i233 := by kernel_rfl
  m15 := by kernel_rfl
  m16 := by kernel_rfl
  m17 := by kernel_rfl
  m18 := by kernel_rfl
  m19 := by kernel_rfl
  c0 := by kernel_rfl
  c2 := by kernel_rfl
  c3 := by kernel_rfl
  c4 := by kernel_rfl
  c5 := by kernel_rfl
  c9 := by kernel_rfl
  c20 := by kernel_rfl
  c21 := by kernel_rfl
  c37 := by kernel_rfl
  c46 := by kernel_rfl
  c51 := by kernel_rfl
  c53 := by kernel_rfl
  c75 := by kernel_rfl
  c76 := by kernel_rfl
  c80 := by kernel_rfl
  c85 := by kernel_rfl
  c127 := by kernel_rfl
  c143 := by kernel_rfl
  c145 := by kernel_rfl
  c167 := by kernel_rfl
  c168 := by kernel_rfl
  c171 := by kernel_rfl
  c173 := by kernel_rfl
  c175 := by kernel_rfl
  c210 := by kernel_rfl
  c212 := by kernel_rfl
  c213 := by kernel_rfl
  c232 := by kernel_rfl
  c233 := by kernel_rfl }
def lays146_ren : Go.Shelf.Ren := ⟨fun | 146 => 72 | 221 => 150 | 268 => 221 | 138 => 137 | 143 => 136 | 195 => 207 | 197 => 138 | 218 => 208 | 219 => 206 | 260 => 209 | 217 => 261 | 225 => 262 | 224 => 263 | 267 => 264 | 266 => 289 | 314 => 290 | n => n, fun | 9 => 9 | 31 => 37 | 3 => 3 | 4 => 4 | 0 => 0 | 105 => 203 | 21 => 21 | 5 => 5 | 46 => 200 | 119 => 346 | 139 => 349 | 138 => 348 | 146 => 281 | 51 => 280 | n => n, fun | 1 => 1 | 3 => 4 | 4 => 5 | n => n⟩
theorem lays146 : Go.Proofs.Lays.n146 Tryz.prog lays146_ren := {
  mixed := by kernel_rfl
  f138 := Tryz.func137.trans (congrArg some (by kernel_rfl))
  f143 := Tryz.func136.trans (congrArg some (by kernel_rfl))
  f146 := Tryz.func72.trans (congrArg some (by kernel_rfl))
  f195 := Tryz.func207.trans (congrArg some (by kernel_rfl))
  f197 := Tryz.func138.trans (congrArg some (by kernel_rfl))
  f217 := Tryz.func261.trans (congrArg some (by kernel_rfl))
  f218 := Tryz.func208.trans (congrArg some (by kernel_rfl))
  f219 := Tryz.func206.trans (congrArg some (by kernel_rfl))
  f221 := Tryz.func150.trans (congrArg some (by kernel_rfl))
  f224 := Tryz.func263.trans (congrArg some (by kernel_rfl))
  f225 := Tryz.func262.trans (congrArg some (by kernel_rfl))
  f260 := Tryz.func209.trans (congrArg some (by kernel_rfl))
  f266 := Tryz.func289.trans (congrArg some (by kernel_rfl))
  f267 := Tryz.func264.trans (congrArg some (by kernel_rfl))
  f268 := Tryz.func221.trans (congrArg some (by kernel_rfl))
  f314 := Tryz.func290.trans (congrArg some (by kernel_rfl))
  t0 := Tryz.underlying0
  a0 := Tryz.isAgg0
  z0 := Tryz.sizeOf0
  v0 := Tryz.zeroValue0
  t3 := Tryz.underlying3
  a3 := Tryz.isAgg3
  z3 := Tryz.sizeOf3
  v3 := Tryz.zeroValue3
  t4 := Tryz.underlying4
  a4 := Tryz.isAgg4
  z4 := Tryz.sizeOf4
  v4 := Tryz.zeroValue4
  t5 := Tryz.underlying5
  a5 := Tryz.isAgg5
  z5 := Tryz.sizeOf5
  v5 := Tryz.zeroValue5
  t9 := Tryz.underlying9
  a9 := Tryz.isAgg9
  z9 := Tryz.sizeOf9
  v9 := Tryz.zeroValue9
  t21 := Tryz.underlying21
  a21 := Tryz.isAgg21
  z21 := Tryz.sizeOf21
  v21 := Tryz.zeroValue21
  t31 := Tryz.underlying37
  a31 := Tryz.isAgg37
  z31 := Tryz.sizeOf37
  v31 := Tryz.zeroValue37
  t46 := Tryz.underlying200
  a46 := Tryz.isAgg200
  z46 := Tryz.sizeOf200
  v46 := Tryz.zeroValue200
  t51 := Tryz.underlying280
  a51 := Tryz.isAgg280
  z51 := Tryz.sizeOf280
  v51 := Tryz.zeroValue280
  t105 := Tryz.underlying203
  a105 := Tryz.isAgg203
  z105 := Tryz.sizeOf203
  v105 := Tryz.zeroValue203
  t119 := Tryz.underlying346
  a119 := Tryz.isAgg346
  z119 := Tryz.sizeOf346
  t138 := Tryz.underlying348
  a138 := Tryz.isAgg348
  z138 := Tryz.sizeOf348
  v138 := Tryz.zeroValue348
  t139 := Tryz.underlying349
  a139 := Tryz.isAgg349
  z139 := Tryz.sizeOf349
  v139 := Tryz.zeroValue349
  t146 := Tryz.underlying281
  a146 := Tryz.isAgg281
  z146 := Tryz.sizeOf281
  v146 := Tryz.zeroValue281
  g1 := by kernel_rfl
  g3 := by kernel_rfl
  g4 := by kernel_rfl }
def lays156_ren : Go.Shelf.Ren := ⟨fun | 156 => 272 | 165 => 127 | 166 => 128 | 169 => 130 | 240 => 197 | 241 => 198 | 276 => 257 | 277 => 258 | n => n, fun | 31 => 37 | 9 => 9 | 3 => 3 | 4 => 4 | 0 => 0 | 20 => 20 | 72 => 190 | 76 => 194 | 70 => 187 | 37 => 188 | 75 => 193 | 127 => 276 | 164 => 339 | 5 => 5 | 80 => 197 | n => n, fun | n => n⟩
theorem lays156 : Go.Proofs.Lays.n156 Tryz.prog lays156_ren := {
  mixed := by kernel_rfl
  f156 := Tryz.func272.trans (congrArg some (by kernel_rfl))
  f165 := Tryz.func127.trans (congrArg some (by kernel_rfl))
  f166 := Tryz.func128.trans (congrArg some (by kernel_rfl))
  f169 := Tryz.func130.trans (congrArg some (by kernel_rfl))
  f240 := Tryz.func197.trans (congrArg some (by kernel_rfl))
  f241 := Tryz.func198.trans (congrArg some (by kernel_rfl))
  f276 := Tryz.func257.trans (congrArg some (by kernel_rfl))
  f277 := Tryz.func258.trans (congrArg some (by kernel_rfl))
  t0 := Tryz.underlying0
  a0 := Tryz.isAgg0
  z0 := Tryz.sizeOf0
  v0 := Tryz.zeroValue0
  t3 := Tryz.underlying3
  a3 := Tryz.isAgg3
  z3 := Tryz.sizeOf3
  v3 := Tryz.zeroValue3
  t4 := Tryz.underlying4
  a4 := Tryz.isAgg4
  z4 := Tryz.sizeOf4
  v4 := Tryz.zeroValue4
  t9 := Tryz.underlying9
  a9 := Tryz.isAgg9
  z9 := Tryz.sizeOf9
  v9 := Tryz.zeroValue9
  t20 := Tryz.underlying20
  a20 := Tryz.isAgg20
  z20 := Tryz.sizeOf20
  v20 := Tryz.zeroValue20
  t31 := Tryz.underlying37
  a31 := Tryz.isAgg37
  z31 := Tryz.sizeOf37
  v31 := Tryz.zeroValue37
  t37 := Tryz.underlying188
  a37 := Tryz.isAgg188
  z37 := Tryz.sizeOf188
  v37 := Tryz.zeroValue188
  t70 := Tryz.underlying187
  a70 := Tryz.isAgg187
  z70 := Tryz.sizeOf187
  v70 := Tryz.zeroValue187
  t72 := Tryz.underlying190
  a72 := Tryz.isAgg190
  z72 := Tryz.sizeOf190
  v72 := Tryz.zeroValue190
  t75 := Tryz.underlying193
  a75 := Tryz.isAgg193
  z75 := Tryz.sizeOf193
  v75 := Tryz.zeroValue193
  t76 := Tryz.underlying194
  a76 := Tryz.isAgg194
  z76 := Tryz.sizeOf194
  v76 := Tryz.zeroValue194
  t127 := Tryz.underlying276
  a127 := Tryz.isAgg276
  z127 := Tryz.sizeOf276
  v127 := Tryz.zeroValue276
  t164 := Tryz.underlying339
  a164 := Tryz.isAgg339
  z164 := Tryz.sizeOf339
  v164 := Tryz.zeroValue339 }
def lays129_ren : Go.Shelf.Ren := ⟨fun | 129 => 233 | n => n, fun | 53 => 233 | 3 => 3 | 4 => 4 | 46 => 200 | 5 => 5 | 9 => 9 | n => n, fun | n => n⟩
theorem lays129 : Go.Proofs.Lays.n129 Tryz.prog lays129_ren := {
  mixed := by kernel_rfl
  f129 := Tryz.func233.trans (congrArg some (by kernel_rfl))
  t3 := Tryz.underlying3
  a3 := Tryz.isAgg3
  z3 := Tryz.sizeOf3
  v3 := Tryz.zeroValue3
  t4 := Tryz.underlying4
  a4 := Tryz.isAgg4
  z4 := Tryz.sizeOf4
  v4 := Tryz.zeroValue4
  t5 := Tryz.underlying5
  a5 := Tryz.isAgg5
  z5 := Tryz.sizeOf5
  v5 := Tryz.zeroValue5
  t9 := Tryz.underlying9
  a9 := Tryz.isAgg9
  z9 := Tryz.sizeOf9
  v9 := Tryz.zeroValue9
  t46 := Tryz.underlying200
  a46 := Tryz.isAgg200
  z46 := Tryz.sizeOf200
  v46 := Tryz.zeroValue200
  t53 := Tryz.underlying233
  a53 := Tryz.isAgg233
  z53 := Tryz.sizeOf233
  v53 := Tryz.zeroValue233 }
def lays729_ren : Go.Shelf.Ren := ⟨fun | 29 => 232 | n => n, fun | 22 => 233 | 3 => 3 | 4 => 4 | 25 => 200 | 54 => 361 | 0 => 0 | 5 => 5 | n => n, fun | 1 => 6 | n => n⟩
theorem lays729 : Go.Proofs.Lays7.n29 Tryz.prog lays729_ren := {
  mixed := by kernel_rfl
  f29 := Tryz.func232.trans (congrArg some (by kernel_rfl))
  t0 := Tryz.underlying0
  a0 := Tryz.isAgg0
  z0 := Tryz.sizeOf0
  v0 := Tryz.zeroValue0
  i0 := by kernel_rfl
  t3 := Tryz.underlying3
  a3 := Tryz.isAgg3
  z3 := Tryz.sizeOf3
  v3 := Tryz.zeroValue3
  i3 := by kernel_rfl
  t4 := Tryz.underlying4
  a4 := Tryz.isAgg4
  z4 := Tryz.sizeOf4
  v4 := Tryz.zeroValue4
  i4 := by kernel_rfl
  t5 := Tryz.underlying5
  a5 := Tryz.isAgg5
  z5 := Tryz.sizeOf5
  v5 := Tryz.zeroValue5
  i5 := by kernel_rfl
  t22 := Tryz.underlying233
  a22 := Tryz.isAgg233
  z22 := Tryz.sizeOf233
  v22 := Tryz.zeroValue233
  i22 := by kernel_rfl
  t25 := Tryz.underlying200
  a25 := Tryz.isAgg200
  z25 := Tryz.sizeOf200
  v25 := Tryz.zeroValue200
  i25 := by kernel_rfl
  t54 := Tryz.underlying361
  a54 := Tryz.isAgg361
  z54 := Tryz.sizeOf361
  g1 := by kernel_rfl }
end Go.Proofs.YtejgofaeafphjaaGreatDoor
namespace Go.Proofs.YtejgofaeafphjaaGreatDoor
open Go.W Go.Ti
theorem var_of {P : Program} {name : String} {w : World} {n : Nat} {cs : Array Value} {t : TypeId} {fz : Nat × Nat} (hg : P.globalNamed name = some n) (h : w.heap[n]? = some (.cells cs t fz)) : w.var? P name = some cs := by
  unfold World.var?
  rw [hg]
  simp [h]
def tabV : List Value := Lib.deBruijn64tab.map fun (n : Nat) => Value.int .u8 (n : Int)
structure LibW (D : Imm) : Prop where
  done : DoneD D
  ents : ∃ t fz, D 0 = some (.cells (List.toArray [st [], st payS, st fineS, st backS]) t fz)
  maxLen : ∃ (m : Int) (r : List Value) (t : TypeId) (fz : Nat × Nat), D 1 = some (.cells (List.toArray (it m :: r)) t fz)
  syn : ∃ (tp : TypeId) (p : Value) (t : TypeId) (fz : Nat × Nat), D 8 = some (.cells (List.toArray [.iface tp p]) t fz)
  rng : ∃ (tp : TypeId) (p : Value) (t : TypeId) (fz : Nat × Nat), D 9 = some (.cells (List.toArray [.iface tp p]) t fz)
  pow : ∃ t fz, D 7 = some (.cells (Lib.pow10Tab.map fun z => Value.int .u64 z).toArray t fz)
  tab : ∃ t fz, D 6 = some (.cells (List.toArray tabV) t fz)
theorem LibW.ext {w : World} {D D' : Imm} (hD : DExt w D D') (h : LibW D) : LibW D' :=
  ⟨h.done.ext hD, let ⟨t, fz, e⟩ := h.ents; ⟨t, fz, hD.old _ _ e⟩, let ⟨m, r, t, fz, e⟩ := h.maxLen; ⟨m, r, t, fz, hD.old _ _ e⟩, let ⟨a, b, t, fz, e⟩ := h.syn; ⟨a, b, t, fz, hD.old _ _ e⟩, let ⟨a, b, t, fz, e⟩ := h.rng; ⟨a, b, t, fz, hD.old _ _ e⟩, let ⟨t, fz, e⟩ := h.pow; ⟨t, fz, hD.old _ _ e⟩, let ⟨t, fz, e⟩ := h.tab; ⟨t, fz, hD.old _ _ e⟩⟩
theorem LibW.max {D : Imm} (h : LibW D) {w : World} (hH : Holds D w) : ∃ m : Int, w.cell? ⟨1, 0, none⟩ = some (.int .i64 m) := by
  obtain ⟨m, r, t, fz, e⟩ := h.maxLen
  exact ⟨m, by have := hH _ _ e; simp [World.cell?, this]⟩
theorem cell0 {D : Imm} {g : Nat} {v : Value} {r : List Value} {t : TypeId} {fz : Nat × Nat} (e : D g = some (.cells (List.toArray (v :: r)) t fz)) {w : World} (hH : Holds D w) : w.cell? ⟨g, 0, none⟩ = some v := by
  have := hH _ _ e
  simp [World.cell?, this]
theorem tz_g (x : Nat) (hx : x < 2 ^ 61) (D : Imm) (hL : LibW D) (w : World) (hH : Holds D w) : Gives Tryz.prog 232 [ut x] w (nt (Lib.ctz 64 x)) := by
  obtain ⟨t, fz, e⟩ := hL.tab
  refine (Any7.bits_TrailingZeros64 lays729 x (Nat.lt_trans hx (by decide)) w (fun _ j hj => ?_)).mono fun e' w' ⟨h1, h2⟩ => ⟨h1, h2 ▸ Keep.refl _ _⟩
  have := hH _ _ e
  show w.cell? ⟨6, j, none⟩ = _
  simp [World.cell?, this, tabV, hj]
theorem len64_g (x : Nat) (hx : x < 2 ^ 61) (w : World) : Gives Tryz.prog 233 [ut x] w (nt (Lib.bitLen x)) := by
  refine (Any.bits_Len64 lays129 (x : Int) w (by omega) (by omega)).mono fun e' w' ⟨h1, h2⟩ => ⟨by simpa using h1, h2 ▸ Keep.refl _ _⟩
def i64B (n : Int) : Prop := -9223372036854775808 ≤ n ∧ n ≤ 9223372036854775807
theorem itoa_g (n : Int) (hn : i64B n) (D : Imm) (hL : LibW D) (w : World) (hH : Holds D w) : Gives Tryz.prog 62 [it n] w (st (Lib.itoa n)) := by
  obtain ⟨t, fz, e⟩ := hL.pow
  exact (Any.strconv_Itoa laysM171 n hn.1 hn.2 w (var_of zk (hH _ _ e))).mono fun e' w' ⟨h1, k, os, h2⟩ => ⟨h1, h2 ▸ Keep.grow w k os⟩
theorem atoi_ok (s : Bs) (hs : s.length ≤ 2 ^ 40) (v : Int) (h : Lib.atoiAll s = .ok v) (w : World) : Gives Tryz.prog 228 [st s] w (.tuple #[it v, .nilIface]) :=
  (Any.strconv_Atoi_ok laysC172 ⟨s.toArray⟩ (by rw [st_size]; omega) v h w).mono fun e' w' ⟨h1, h2⟩ => ⟨h1, by
    rcases h2 with rfl | ⟨t, rfl⟩
    · exact Keep.refl _ _
    exact Keep.of_below (Lib.bytesWorld_below w _ _)⟩
theorem atoi_no (s : Bs) (hs : s.length ≤ 2 ^ 40) (h : ∀ v, Lib.atoiAll s ≠ .ok v) (D : Imm) (hL : LibW D) (w : World) (hH : Holds D w) : News Tryz.prog 228 [st s] w D (fun v _ h' => h' = [] ∧ ∃ z tt p, v = .tuple #[it z, .iface tt p]) := by
  have fin : ∀ {w' : World}, RowKit.Below w.heap.size w w' → Inv D [] [] w w' := fun hb => (Inv.start hH).call (Keep.of_below hb)
  rcases e : Lib.atoiAll s with v | _ | _
  · exact absurd e (h v)
  · obtain ⟨tp, p, t, fz, e2⟩ := hL.syn
    exact (Any.strconv_Atoi_syntax laysC172 ⟨s.toArray⟩ (by rw [st_size]; omega) e (.iface tp p) w (cell0 e2 hH) (.inr ⟨_, _, rfl⟩)).mono fun e' w' ⟨N, h1, _, _, h4⟩ => ⟨_, D, [], h1, DExt.refl _ _, fin h4, rfl, _, _, _, rfl⟩
  obtain ⟨tp, p, t, fz, e2⟩ := hL.rng
  exact (Any.strconv_Atoi_range laysC172 ⟨s.toArray⟩ (by rw [st_size]; omega) e (.iface tp p) w (cell0 e2 hH) (.inr ⟨_, _, rfl⟩)).mono fun e' w' ⟨N, h1, _, _, h4⟩ => ⟨_, D, [], h1, DExt.refl _ _, fin h4, rfl, _, _, _, rfl⟩
theorem xJoin : Builder.Extra Tryz.prog lays156_ren := ⟨⟨by kernel_rfl, by kernel_rfl⟩, Tryz.underlying5, Tryz.isAgg5, Tryz.sizeOf5, Tryz.zeroValue5, by kernel_rfl, by kernel_rfl, by kernel_rfl, by decide⟩
theorem join_g (l : List Bs) (a : Option Addr) (n c : Nat) (D : Imm) (hS : SlL D 1 (l.map fun p => [st p]) a n) (hn : n ≤ 1000) (hc : n ≤ c) (hlen : (Lib.join l [32]).length ≤ 100000) (w : World) (hH : Holds D w) : Gives Tryz.prog 272 [.slice a n c, st [32]] w (st (Lib.join l [32])) := by
  obtain rfl := hS.len'
  have hm : ((l.map fun p => (⟨p.toArray⟩ : ByteArray)).map (·.data.toList)) = l := by rw [List.map_map]; exact List.map_id'' (fun _ => rfl) l
  cases l with
  | nil =>
    refine (Any.strings_Join_none lays156 xJoin a c ⟨List.toArray [32]⟩ w).mono fun e' w' ⟨h1, h2⟩ => ⟨h1, h2 ▸ Keep.refl _ _⟩
  | cons x l =>
    have ha := hS.addr 0 (by simp)
    rw [ha]
    have hcell : ∀ (j : Nat) y, ((x :: l).map fun p => (⟨p.toArray⟩ : ByteArray))[j]? = some y → w.cell? ⟨sb a, so a + j, none⟩ = some (.string y) := fun j y hj => by
      have hjl : j < (x :: l).length := by
        rcases Nat.lt_or_ge j (x :: l).length with h | h
        · exact h
        rw [List.getElem?_eq_none (by rw [List.length_map]; exact h)] at hj; cases hj
      have hr := (hS.at (f := fun p => [st p]) j hjl).rd (hp := []) 0 rfl [] w w (Inv.start hH)
      rw [Nat.mul_one, Nat.add_zero] at hr
      rw [hr]
      rw [List.getElem?_map, gt_of hjl] at hj
      cases hj; rfl
    have hbk : sb a < w.heap.size := by
      have := hcell 0 ⟨x.toArray⟩ rfl
      unfold World.cell? at this
      rcases Nat.lt_or_ge (sb a) w.heap.size with h | h
      · exact h
      simp [Array.getElem?_eq_none h] at this
    have hl2 : (Lib.join (((x :: l).map fun p => (⟨p.toArray⟩ : ByteArray)).map (·.data.toList)) (⟨List.toArray [32]⟩ : ByteArray).data.toList).length ≤ 140737488355328 := by rw [hm]; exact Nat.le_trans hlen (by decide)
    have := Any.strings_Join lays156 xJoin (sb a) (so a) c ((x :: l).map fun p => (⟨p.toArray⟩ : ByteArray)) ⟨List.toArray [32]⟩ w hcell hbk (by rw [List.length_map]; omega) (by rw [List.length_map]; exact hc) hl2
    rw [List.length_map, hm] at this
    exact this.mono fun e' w' ⟨h1, h2⟩ => ⟨h1, Keep.of_below h2⟩
end Go.Proofs.YtejgofaeafphjaaGreatDoor
namespace Go.Proofs.YtejgofaeafphjaaGreatDoor
open Go.W Go.Ti
theorem tdC_rd (T : Tide) (h : Hts) {j : Nat} (hj : j < 4) : (tdC T h)[0 + 4 + j * 1]? = some (if j < T.sand.length then ut (setU T h j) else ut 0) := by
  rcases (show j = 0 ∨ j = 1 ∨ j = 2 ∨ j = 3 by omega) with rfl | rfl | rfl | rfl <;> rfl
theorem td_HtB {T : Tide} (hT : TideOk T) {h : Hts} (hh : h ∈ tdL T) : HtB h := fun i => by
  have h1 := (mem_tdL.1 hh).1
  rcases Nat.lt_or_ge i T.marks.length with hi | hi
  · exact h1.high hT i hi
  rw [h1.rest i hi]; omega
theorem ends_g (T : Tide) (hT : TideOk T) (h : Hts) (p : Nat) (hp : p < T.sand.length) (hne : setL T h p ≠ []) (D : Imm) (hL : LibW D) (w : World) (hH : Holds D w) : Gives Tryz.prog 169 [ut (setU T h p)] w (.tuple #[it (headI (setL T h p)), it (lastI (setL T h p))]) := by
  unfold Gives
  obtain ⟨he1, he2, he3, he4⟩ := setU_ends hT hp hne
  refine en Tryz.func169 rfl Tryz.ntmps169 (Inv.start hH) (g [[1],[6,0],[2,3,2,0]] ?_)
  refine WL.cl rfl (fun w hI => tz_g _ he1 D hL _ hI.imm) (g [[1]] ?_)
  refine WL.cl rfl (fun w hI => len64_g _ he1 _) ?_
  have hb64 : Lib.bitLen (setU T h p) ≤ 64 := Lib.bitLen_le _ 64 (by omega) (Nat.lt_trans he1 (by decide))
  refine g [[6]] ?_
  refine WP.ret2 rfl rfl rfl (RV.tmp rfl) (RV.tmp rfl) (fun w hI => ⟨congrArg Ending.returned (by rw [← he3, ← he4]), hI.keep⟩)
theorem depthC_g (T : Tide) (a1 a2 a3 : Option Addr) (n1 n2 n3 c1 c2 c3 : Nat) (D : Imm) (w : World) (hR : TideR D T a1 n1 a2 n2 a3 n3) (qb mb : Nat) (hq : D qb = some (shoO (.slice a1 n1 c1) (.slice a2 n2 c2) (.slice a3 n3 c3) mb)) (hH : Holds D w) (hT : TideOk T) (hL : LibW D) (p : Nat) (hp : p < T.sand.length) (m : Int) (hm : minuteB T m = true) (bs bm bp : Nat) (h1 : D bs = some (.cells (List.toArray [pt qb]) 134 (0, 0))) (h2 : D bm = some (.cells (List.toArray [it m]) 3 (0, 0))) (h3 : D bp = some (.cells (List.toArray [nt p]) 3 (0, 0))) : CloD T mb D (tdL T) 167 [pt bs, pt bm, pt bp] (depthF T p m) := by
  obtain rfl := hR.mark.len'
  obtain rfl := hR.sand.len'
  obtain rfl := hR.look.len'
  obtain ⟨hl1, hl2, hl3⟩ := hR.len
  refine ⟨CaF.h, fun h hhL w hM hMM hI0 => ?_⟩
  obtain ⟨es, clock, F, rfl, hMR, hFK⟩ := hMM
  have hh := td_HtB hT hhL
  have hne := (mem_tdL.1 hhL).2 p hp
  have hsn := stands_num hT (h := h) (fun i _ => hh i) hm
  obtain ⟨ge1, ge2, _⟩ := set_ends hne
  have gn1 := set_num hT hp ge1
  have gn2 := set_num hT hp ge2
  have hns := hT.ns
  have hcell : (tdC T h)[0 + 4 + (p : Int).toNat * 1]? = some (ut (setU T h p)) := by rw [Int.toNat_natCast, tdC_rd T h (by omega), if_pos hp]
  unfold AltersN
  refine en Tryz.func167 rfl Tryz.ntmps167 hI0 (g [[1],[1,0,1,2,3]] ?_)
  refine WL.so (SO.box rfl rfl) rfl (zw fun b4 hb4 => ?_)
  refine g [[5],[5,6,5,4,1,2,3]] ?_
  refine WL.know 12 (htV h) rfl rfl (WL.so (SO.altersN (own := [_]) (hpc := [(mb, .map es clock)]) (S1 := [mb]) (fun _ h => h) (fun h => h) (fun _ h => h) (fun _ h => h) (Enters.func CaF.h rfl) (fun w1 hI => stands_g T a1 a2 a3 _ _ _ c1 c2 c3 D w1 hR qb mb hq hI.imm hT hL.done h m hh hm es clock F hMR hFK hI)) rfl ?_)
  rintro _ _ _ ⟨hp3, _, ⟨rfl, rfl, hMM2⟩, rfl⟩
  refine g [[4],[3,7,6,5,4,3]] ?_
  refine WL.yd (Yd.indexA UnF.h SzF.h rfl rfl (by omega) (by omega)) rfl (WL.yd (Yd.l1 rfl (Rd.own (k := 0) rfl hcell)) rfl ?_)
  refine WL.cl rfl (fun w hI => ends_g T hT h p hp hne _ hL _ hI.imm) (g [[8],[4,9,8,7,6,5]] ?_)
  refine WL.yd (Yd.max2 rfl rfl) rfl (g [[3]] ?_)
  refine WL.yd (Yd.max2 rfl rfl) rfl (g [[5]] ?_)
  refine WP.ret2 rfl rfl rfl (RV.tmp rfl) (RV.tmp rfl) (fun w1 hI => ⟨_, _, _, rfl, DExt.refl _ _, hI.drop 1, rfl, rfl, hMM2⟩)
theorem depth_g (T : Tide) (a1 a2 a3 : Option Addr) (n1 n2 n3 c1 c2 c3 : Nat) (D : Imm) (w : World) (hR : TideR D T a1 n1 a2 n2 a3 n3) (qb mb : Nat) (hq : D qb = some (shoO (.slice a1 n1 c1) (.slice a2 n2 c2) (.slice a3 n3 c3) mb)) (hH : Holds D w) (hT : TideOk T) (hL : LibW D) (p : Nat) (hp : p < T.sand.length) (m : Int) (hm : minuteB T m = true) (al : Option Addr) (cl : Nat) (hS : SlL D 8 ((tdL T).map (tdC T)) al (tdL T).length) (hM : Hp) (hMM : MapK T mb hM) (hI0 : Inv D hM [mb] w w) : AltersN Tryz.prog 84 [pt qb, .slice al (tdL T).length cl, nt p, it m] w D [mb] (fun v D' hp' => v = .agg #[it (depthS T p m).lo, it (depthS T p m).hi] ∧ MapK T mb hp') := by
  unfold AltersN
  obtain rfl := hR.mark.len'
  obtain rfl := hR.sand.len'
  obtain rfl := hR.look.len'
  obtain ⟨hl1, hl2, hl3⟩ := hR.len
  obtain ⟨es, clock, F, rfl, hMR, hFK⟩ := hMM
  refine en Tryz.func84 rfl Tryz.ntmps84 hI0 (g [[1],[1,0,1,2,3]] ?_)
  refine WL.so (SO.box rfl rfl) rfl (zw fun b4 hb4 => ?_)
  refine WL.so (SO.box rfl rfl) rfl (zw fun b6 hb6 => ?_)
  refine WL.so (SO.box rfl rfl) rfl (zw fun b7 hb7 => ?_)
  refine WL.so (SO.alloc ZvF.h rfl) rfl (zw fun b8 hb8 => ?_)
  refine g [[3]] ?_
  refine WC.freezeN 1 b7 (.cells (List.toArray [it m]) 3 (0, 0)) rfl rfl hb7 (fun D1 hX1 h7 => ?_)
  replace hR := hR.ext hX1
  replace hq := hX1.old _ _ hq
  replace hL := hL.ext hX1
  replace hS := hS.ext hX1
  refine WC.freezeN 1 b6 (.cells (List.toArray [nt p]) 3 (0, 0)) rfl rfl hb6 (fun D2 hX2 h6 => ?_)
  replace hR := hR.ext hX2
  replace hq := hX2.old _ _ hq
  replace hL := hL.ext hX2
  replace hS := hS.ext hX2
  replace h7 := hX2.old _ _ h7
  refine WC.freezeN 1 b4 (.cells (List.toArray [pt qb]) 134 (0, 0)) rfl rfl hb4 (fun D3 hX3 h4 => ?_)
  replace hR := hR.ext hX3
  replace hq := hX3.old _ _ hq
  replace hL := hL.ext hX3
  replace hS := hS.ext hX3
  replace h7 := hX3.old _ _ h7
  replace h6 := hX3.old _ _ h6
  have hX := (hX1.trans hX2 (Nat.le_refl _)).trans hX3 (Nat.le_refl _)
  refine g [[3,8,7,6,4,1]] ?_
  refine WL.so (SO.altersN (own := [_]) (hpc := [(mb, .map es clock)]) (S1 := [mb]) (fun _ h => h) (fun h => h) (fun _ h => h) (fun _ h => h) (Enters.func CaF.h rfl) (fun w1 hI => spanD_g T mb (tdL T) 167 [pt b4, pt b7, pt b6] (depthF T p m) D3 (depthC_g T a1 a2 a3 _ _ _ c1 c2 c3 D3 w1 hR qb mb hq hI.imm hT hL p hp m hm b4 b7 b6 h4 h7 h6) al _ cl hS (by have := tdL_len hT; omega) [(mb, .map es clock)] ⟨es, clock, F, rfl, hMR, hFK⟩ w1 hI)) rfl ?_
  rintro _ _ _ ⟨hp3, _, ⟨rfl, rfl, hMM2⟩, rfl⟩
  refine g [[4]] ?_
  refine WP.ret1 rfl rfl rfl (RV.cellN AgF.h SzF.h rfl (vs := [_, _]) rfl (RdN.own (k := 0) (n := 2) rfl rfl)) (fun w1 hI => ⟨_, _, _, rfl, hX, hI.drop 1, rfl, hMM2⟩)
end Go.Proofs.YtejgofaeafphjaaGreatDoor
namespace Go.Proofs.YtejgofaeafphjaaGreatDoor
open Go.W Go.Ti
theorem openD_1 (T : Tide) (a1 a2 a3 : Option Addr) (n1 n2 n3 c1 c2 c3 : Nat) (D : Imm) (w : World) (hR : TideR D T a1 n1 a2 n2 a3 n3) (hH : Holds D w) (fi : FuncId) (cp : List Value) (is : Bool) (hfi : ∀ args w, (callFunc fi args).run Tryz.prog w = .ok (.enter fi args) w) (hv : tideB T = false) : Fails Tryz.prog 80 [.agg #[.slice a1 n1 c1, .slice a2 n2 c2, .slice a3 n3 c3], .func (.func fi) #[] cp.toArray] w (stopD 1) :=
  (openD_g T a1 a2 a3 n1 n2 n3 c1 c2 c3 D w hR hH fi cp is hfi (fun h => absurd (h.symm.trans hv) (by decide))).mono fun e w' h => h.1 hv
theorem openD_2 (T : Tide) (a1 a2 a3 : Option Addr) (n1 n2 n3 c1 c2 c3 : Nat) (D : Imm) (w : World) (hR : TideR D T a1 n1 a2 n2 a3 n3) (hH : Holds D w) (fi : FuncId) (cp : List Value) (hfi : ∀ args w, (callFunc fi args).run Tryz.prog w = .ok (.enter fi args) w) (hIs : tideB T = true → ∀ q mb D' w', DExt w D D' → D' q = some (shoO (.slice a1 n1 c1) (.slice a2 n2 c2) (.slice a3 n3 c3) mb) → Holds D' w' → Gives Tryz.prog fi (pt q :: cp) w' (.bool false)) (hv : tideB T = true) : Fails Tryz.prog 80 [.agg #[.slice a1 n1 c1, .slice a2 n2 c2, .slice a3 n3 c3], .func (.func fi) #[] cp.toArray] w (stopD 2) :=
  (openD_g T a1 a2 a3 n1 n2 n3 c1 c2 c3 D w hR hH fi cp false hfi hIs).mono fun e w' h => h.2.1 hv rfl
theorem openD_ok (T : Tide) (a1 a2 a3 : Option Addr) (n1 n2 n3 c1 c2 c3 : Nat) (D : Imm) (w : World) (hR : TideR D T a1 n1 a2 n2 a3 n3) (hH : Holds D w) (fi : FuncId) (cp : List Value) (hfi : ∀ args w, (callFunc fi args).run Tryz.prog w = .ok (.enter fi args) w) (hIs : tideB T = true → ∀ q mb D' w', DExt w D D' → D' q = some (shoO (.slice a1 n1 c1) (.slice a2 n2 c2) (.slice a3 n3 c3) mb) → Holds D' w' → Gives Tryz.prog fi (pt q :: cp) w' (.bool true)) (hv : tideB T = true) : News Tryz.prog 80 [.agg #[.slice a1 n1 c1, .slice a2 n2 c2, .slice a3 n3 c3], .func (.func fi) #[] cp.toArray] w D (fun v D' h' => ∃ q mb, v = pt q ∧ D' q = some (shoO (.slice a1 n1 c1) (.slice a2 n2 c2) (.slice a3 n3 c3) mb) ∧ h' = [(mb, .map #[] 0)]) :=
  (openD_g T a1 a2 a3 n1 n2 n3 c1 c2 c3 D w hR hH fi cp true hfi hIs).mono fun e w' h => by
    obtain ⟨q, mb, D', h1, h2, h3, h4⟩ := h.2.2 hv rfl
    exact ⟨_, D', _, h1, h2, h4, q, mb, rfl, h3, rfl⟩
theorem placeB_nat {T : Tide} {n : Int} (h : placeB T n = true) : ∃ a : Nat, n = (a : Int) ∧ a < T.sand.length := by
  have := of_decide_eq_true h
  exact ⟨n.toNat, by omega, by omega⟩
theorem first_some {T : Tide} {p : Nat} {least : Int} : ∀ (n : Nat) (m : Int) (k : Nat), (∀ j, j < k → ¬ least ≤ (depthS T p (m + (j : Int))).lo) → least ≤ (depthS T p (m + (k : Int))).lo → k < n → firstF T p least n m = some (m + (k : Int))
  | 0, _, k, _, _, h => absurd h (Nat.not_lt_zero _)
  | n + 1, m, 0, _, h2, _ => by
    have e : m + ((0 : Nat) : Int) = m := by omega
    rw [e] at h2 ⊢
    rw [firstF, if_pos h2]
  | n + 1, m, k + 1, h1, h2, h3 => by
    have h0 := h1 0 (by omega)
    have e : m + ((0 : Nat) : Int) = m := by omega
    rw [e] at h0
    rw [firstF, if_neg h0, first_some n (m + 1) k (fun j hj => by have := h1 (j + 1) (by omega); rwa [show m + ((j + 1 : Nat) : Int) = m + 1 + (j : Int) by omega] at this) (by rwa [show m + ((k + 1 : Nat) : Int) = m + 1 + (k : Int) by omega] at h2) (by omega)]
    congr 1; omega
theorem first_none {T : Tide} {p : Nat} {least : Int} : ∀ (n : Nat) (m : Int), (∀ j, j < n → ¬ least ≤ (depthS T p (m + (j : Int))).lo) → firstF T p least n m = none
  | 0, _, _ => rfl
  | n + 1, m, h1 => by
    have h0 := h1 0 (by omega)
    have e : m + ((0 : Nat) : Int) = m := by omega
    rw [e] at h0
    rw [firstF, if_neg h0, first_none n (m + 1) fun j hj => by have := h1 (j + 1) (by omega); rwa [show m + ((j + 1 : Nat) : Int) = m + 1 + (j : Int) by omega] at this]
theorem depthIs_g (T : Tide) (a1 a2 a3 : Option Addr) (n1 n2 n3 c1 c2 c3 : Nat) (D : Imm) (w : World) (hR : TideR D T a1 n1 a2 n2 a3 n3) (qb mb : Nat) (hq : D qb = some (shoO (.slice a1 n1 c1) (.slice a2 n2 c2) (.slice a3 n3 c3) mb)) (hH : Holds D w) (hnm : 2 ≤ T.marks.length) (p m : Int) (b4 b5 : Nat) (h4 : D b4 = some (.cells (List.toArray [it p]) 3 (0, 0))) (h5 : D b5 = some (.cells (List.toArray [it m]) 3 (0, 0))) : Gives Tryz.prog 81 [pt qb, pt b4, pt b5] w (.bool (placeB T p && minuteB T m)) := by
  unfold Gives
  refine en Tryz.func81 rfl Tryz.ntmps81 (Inv.start hH) (g [[1],[5,0,1,2],[3,4,0,1,2]] ?_)
  refine WL.cl rfl (fun w hI => isPlace_g T a1 a2 a3 n1 n2 n3 c1 c2 c3 _ _ hR qb mb hq hI.imm _) (g [[1]] ?_)
  refine WL.part 8 rfl (fun g8 => ?_) (fun g8 => ?_)
  · try simp only [zq] at g8
    refine g [[2]] ?_
    refine WL.sog rfl (SO.callP CaF.h rfl (fun w hI => isMinute_g T a1 a2 a3 n1 n2 n3 c1 c2 c3 _ _ hR qb mb hq hI.imm hnm _)) rfl (zs (g [[5]] ?_))
    refine WP.ret1 rfl rfl rfl (RV.tmp rfl) (fun w hI => ⟨ret_bool (by simp_all), hI.keep⟩)
  try simp only [zq] at g8
  refine g [[8]] ?_
  refine WP.ret1 rfl rfl rfl (RV.tmp rfl) (fun w hI => ⟨ret_bool (by simp_all), hI.keep⟩)
theorem firstIs_g (T : Tide) (a1 a2 a3 : Option Addr) (n1 n2 n3 c1 c2 c3 : Nat) (D : Imm) (w : World) (hR : TideR D T a1 n1 a2 n2 a3 n3) (qb mb : Nat) (hq : D qb = some (shoO (.slice a1 n1 c1) (.slice a2 n2 c2) (.slice a3 n3 c3) mb)) (hH : Holds D w) (hnm : 2 ≤ T.marks.length) (p l m : Int) (b4 b5 b6 : Nat) (h4 : D b4 = some (.cells (List.toArray [it p]) 3 (0, 0))) (h5 : D b5 = some (.cells (List.toArray [it l]) 3 (0, 0))) (h6 : D b6 = some (.cells (List.toArray [it m]) 3 (0, 0))) : Gives Tryz.prog 123 [pt qb, pt b4, pt b5, pt b6] w (.bool (placeB T p && (deepB l && minuteB T m))) := by
  unfold Gives
  refine en Tryz.func123 rfl Tryz.ntmps123 (Inv.start hH) (g [[1],[5,0,1,2,3],[3,5,0,1,2,3]] ?_)
  refine WL.cl rfl (fun w hI => isPlace_g T a1 a2 a3 n1 n2 n3 c1 c2 c3 _ _ hR qb mb hq hI.imm _) (g [[1]] ?_)
  refine WL.part 9 rfl (fun g9 => ?_) (fun g9 => ?_)
  · try simp only [zq] at g9
    refine g [[1]] ?_
    refine WL.sog rfl (SO.callP CaF.h rfl (fun w hI => isDeep_g _ _)) rfl (zs (g [[2]] ?_))
    refine WL.part 13 rfl (fun g13 => ?_) (fun g13 => ?_)
    · try simp only [zq] at g13
      refine g [[2]] ?_
      refine WL.sog rfl (SO.callP CaF.h rfl (fun w hI => isMinute_g T a1 a2 a3 n1 n2 n3 c1 c2 c3 _ _ hR qb mb hq hI.imm hnm _)) rfl (zs (g [[5]] ?_))
      refine WP.ret1 rfl rfl rfl (RV.tmp rfl) (fun w hI => ⟨ret_bool (by simp_all), hI.keep⟩)
    try simp only [zq] at g13
    refine g [[8]] ?_
    refine WP.ret1 rfl rfl rfl (RV.tmp rfl) (fun w hI => ⟨ret_bool (by simp_all), hI.keep⟩)
  try simp only [zq] at g9
  refine g [[12]] ?_
  refine WP.ret1 rfl rfl rfl (RV.tmp rfl) (fun w hI => ⟨ret_bool (by simp_all), hI.keep⟩)
theorem Depth_1 (T : Tide) (a1 a2 a3 : Option Addr) (n1 n2 n3 c1 c2 c3 : Nat) (D : Imm) (w : World) (hR : TideR D T a1 n1 a2 n2 a3 n3) (hH : Holds D w) (hL : LibW D) (p m : Int) (hv : tideB T = false) : Gives Tryz.prog 24 [.agg #[.slice a1 n1 c1, .slice a2 n2 c2, .slice a3 n3 c3], it p, it m] w (.tuple #[.agg #[it (DepthOut T p m).1.lo, it (DepthOut T p m).1.hi], it (DepthOut T p m).2]) := by
  unfold Gives
  obtain rfl := hR.mark.len'
  obtain rfl := hR.sand.len'
  obtain rfl := hR.look.len'
  obtain ⟨hl1, hl2, hl3⟩ := hR.len
  have hO : DepthOut T p m = (⟨0, 0⟩, 1) := by unfold DepthOut tideE; simp [hv]
  refine enD Tryz.func24 rfl Tryz.ntmps24 (Inv.start hH) (g [[1],[1,0,1,2]] ?_)
  refine WL.so (SO.box rfl rfl) rfl (zw fun b3 hb3 => ?_)
  refine WL.so (SO.box rfl rfl) rfl (zw fun b4 hb4 => ?_)
  refine WL.so (SO.box rfl rfl) rfl (zw fun b5 hb5 => ?_)
  refine WL.so (SO.alloc ZvF.h rfl) rfl (zw fun b6 hb6 => ?_)
  refine WL.so (SO.alloc ZvF.h rfl) rfl (zw fun b7 hb7 => ?_)
  refine g [[3],[2,7,6,5,4,3]] ?_
  refine WL.defer rfl (g [[3]] ?_)
  refine WC.freezeN 3 b4 (.cells (List.toArray [it p]) 3 (0, 0)) rfl rfl hb4 (fun D1 hX1 h4 => ?_)
  replace hR := hR.ext hX1
  replace hL := hL.ext hX1
  refine WC.freezeN 2 b5 (.cells (List.toArray [it m]) 3 (0, 0)) rfl rfl hb5 (fun D2 hX2 h5 => ?_)
  replace hR := hR.ext hX2
  replace hL := hL.ext hX2
  replace h4 := hX2.old _ _ h4
  refine g [[3,7,6,5,4,3]] ?_
  refine WL.nf rfl (fun w hI => openD_1 T a1 a2 a3 _ _ _ c1 c2 c3 _ w hR hI.imm 81 [pt b4, pt b5] ((placeB T p && minuteB T m)) CaF.h hv) (g [[1]] ?_)
  refine WP.panicD (k := 0) [_, _] [_, _] rfl CaF.h rfl (fun w hI => catch78 _ _ _ _ _ (hI.own _ _ (List.mem_of_getElem? (i := 0) rfl))) rfl zV (fun w hI => ⟨congrArg Ending.returned (by rw [hO]; rfl), hI.keep⟩)
theorem Depth_2 (T : Tide) (a1 a2 a3 : Option Addr) (n1 n2 n3 c1 c2 c3 : Nat) (D : Imm) (w : World) (hR : TideR D T a1 n1 a2 n2 a3 n3) (hH : Holds D w) (hL : LibW D) (p m : Int) (hv : tideB T = true) (hw : ((placeB T p && minuteB T m)) = false) : Gives Tryz.prog 24 [.agg #[.slice a1 n1 c1, .slice a2 n2 c2, .slice a3 n3 c3], it p, it m] w (.tuple #[.agg #[it (DepthOut T p m).1.lo, it (DepthOut T p m).1.hi], it (DepthOut T p m).2]) := by
  unfold Gives
  obtain rfl := hR.mark.len'
  obtain rfl := hR.sand.len'
  obtain rfl := hR.look.len'
  obtain ⟨hl1, hl2, hl3⟩ := hR.len
  have hT := tideB_iff.1 hv
  have hO : DepthOut T p m = (⟨0, 0⟩, 2) := by unfold DepthOut tideE; rw [hw]; simp [hv]
  refine enD Tryz.func24 rfl Tryz.ntmps24 (Inv.start hH) (g [[1],[1,0,1,2]] ?_)
  refine WL.so (SO.box rfl rfl) rfl (zw fun b3 hb3 => ?_)
  refine WL.so (SO.box rfl rfl) rfl (zw fun b4 hb4 => ?_)
  refine WL.so (SO.box rfl rfl) rfl (zw fun b5 hb5 => ?_)
  refine WL.so (SO.alloc ZvF.h rfl) rfl (zw fun b6 hb6 => ?_)
  refine WL.so (SO.alloc ZvF.h rfl) rfl (zw fun b7 hb7 => ?_)
  refine g [[3],[2,7,6,5,4,3]] ?_
  refine WL.defer rfl (g [[3]] ?_)
  refine WC.freezeN 3 b4 (.cells (List.toArray [it p]) 3 (0, 0)) rfl rfl hb4 (fun D1 hX1 h4 => ?_)
  replace hR := hR.ext hX1
  replace hL := hL.ext hX1
  refine WC.freezeN 2 b5 (.cells (List.toArray [it m]) 3 (0, 0)) rfl rfl hb5 (fun D2 hX2 h5 => ?_)
  replace hR := hR.ext hX2
  replace hL := hL.ext hX2
  replace h4 := hX2.old _ _ h4
  refine g [[3,7,6,5,4,3]] ?_
  refine WL.nf rfl (fun w hI => openD_2 T a1 a2 a3 _ _ _ c1 c2 c3 _ w hR hI.imm 81 [pt b4, pt b5] CaF.h (fun _ q mb D' w' hX hq hH => by have := depthIs_g T a1 a2 a3 _ _ _ c1 c2 c3 D' w' (hR.ext hX) q mb hq hH hT.nm.1 p m b4 b5 (hX.old _ _ h4) (hX.old _ _ h5); rwa [hw] at this) hv) (g [[1]] ?_)
  refine WP.panicD (k := 0) [_, _] [_, _] rfl CaF.h rfl (fun w hI => catch78 _ _ _ _ _ (hI.own _ _ (List.mem_of_getElem? (i := 0) rfl))) rfl zV (fun w hI => ⟨congrArg Ending.returned (by rw [hO]; rfl), hI.keep⟩)
theorem Depth_3 (T : Tide) (a1 a2 a3 : Option Addr) (n1 n2 n3 c1 c2 c3 : Nat) (D : Imm) (w : World) (hR : TideR D T a1 n1 a2 n2 a3 n3) (hH : Holds D w) (hL : LibW D) (p m : Int) (hv : tideB T = true) (hw : ((placeB T p && minuteB T m)) = true) : Gives Tryz.prog 24 [.agg #[.slice a1 n1 c1, .slice a2 n2 c2, .slice a3 n3 c3], it p, it m] w (.tuple #[.agg #[it (DepthOut T p m).1.lo, it (DepthOut T p m).1.hi], it (DepthOut T p m).2]) := by
  unfold Gives
  obtain rfl := hR.mark.len'
  obtain rfl := hR.sand.len'
  obtain rfl := hR.look.len'
  obtain ⟨hl1, hl2, hl3⟩ := hR.len
  have hT := tideB_iff.1 hv
  have hO : tdL T = [] → DepthOut T p m = (⟨0, 0⟩, 10) := fun h => by unfold DepthOut tideE; rw [hw]; simp [hv, h]
  have hO0 : tdL T ≠ [] → DepthOut T p m = (depthS T p.toNat m, 0) := fun h => by unfold DepthOut tideE; rw [hw]; simp [hv, h]
  have hmm : minuteB T m = true := by simp only [Bool.and_eq_true] at hw; exact hw.2
  obtain ⟨a, hpa, ha⟩ := placeB_nat (T := T) (n := p) (by simp only [Bool.and_eq_true] at hw; exact hw.1)
  have hpt : p.toNat = a := by omega
  rw [hpt] at hO0
  refine enD Tryz.func24 rfl Tryz.ntmps24 (Inv.start hH) (g [[1],[1,0,1,2]] ?_)
  refine WL.so (SO.box rfl rfl) rfl (zw fun b3 hb3 => ?_)
  refine WL.so (SO.box rfl rfl) rfl (zw fun b4 hb4 => ?_)
  refine WL.so (SO.box rfl rfl) rfl (zw fun b5 hb5 => ?_)
  refine WL.so (SO.alloc ZvF.h rfl) rfl (zw fun b6 hb6 => ?_)
  refine WL.so (SO.alloc ZvF.h rfl) rfl (zw fun b7 hb7 => ?_)
  refine g [[3],[2,7,6,5,4,3]] ?_
  refine WL.defer rfl (g [[3]] ?_)
  refine WC.freezeN 3 b4 (.cells (List.toArray [it p]) 3 (0, 0)) rfl rfl hb4 (fun D1 hX1 h4 => ?_)
  replace hR := hR.ext hX1
  replace hL := hL.ext hX1
  refine WC.freezeN 2 b5 (.cells (List.toArray [it m]) 3 (0, 0)) rfl rfl hb5 (fun D2 hX2 h5 => ?_)
  replace hR := hR.ext hX2
  replace hL := hL.ext hX2
  replace h4 := hX2.old _ _ h4
  refine g [[3,7,6,5,4,3]] ?_
  refine WL.so (SO.news (Enters.func CaF.h rfl) (fun w hI => openD_ok T a1 a2 a3 _ _ _ c1 c2 c3 _ w hR hI.imm 81 [pt b4, pt b5] CaF.h (fun _ q mb D' w' hX hq hH => by have := depthIs_g T a1 a2 a3 _ _ _ c1 c2 c3 D' w' (hR.ext hX) q mb hq hH hT.nm.1 p m b4 b5 (hX.old _ _ h4) (hX.old _ _ h5); rwa [hw] at this) hv)) rfl ?_
  rintro _ D3 _ ⟨hp3, hX3, ⟨qb, mb, rfl, hq3, rfl⟩, rfl⟩
  have hR3 := hR.ext hX3
  have hL3 := hL.ext hX3
  refine g [[4]] ?_
  replace h4 := hX3.old _ _ h4
  replace h5 := hX3.old _ _ h5
  refine g [[0,8,7,6,5,4]] ?_
  refine WC.drawD [] (pz [1,3,7,9,4,10,12,14]) zk zk zX (fun _ hI => hI.drop 99) (g [[4]] ?_)
  refine WA.so rfl  (SO.altersV (own := [_, _, _]) (hpc := [(mb, .map #[] 0)]) (S1 := [mb]) (fun _ h => h) (fun h => h) (fun _ h => h) (fun _ h => h) (Enters.func CaF.h rfl) (fun w1 _ hI => toldD_g T a1 a2 a3 _ _ _ c1 c2 c3 D3 w1 hR3 qb mb hq3 hI.imm hT hL3.done _ (mapK_nil T mb) hI) ?_) rfl ?_
  · rintro _ D5 hp5 ⟨rfl, hnil, hMM5⟩ hX5
    refine g [[1]] ?_
    refine WP.panicD (k := 0) [_, _] [_, _] rfl CaF.h rfl (fun w hI => catch78 _ _ _ _ _ (hI.own _ _ (List.mem_of_getElem? (i := 0) rfl))) rfl zV (fun w hI => ⟨congrArg Ending.returned (by rw [hO hnil]; rfl), hI.keep⟩)
  rintro _ D5 _ ⟨hp5, hX5, ⟨hne, al, cl, rfl, hS5, hMM5⟩, rfl⟩
  replace hR3 := hR3.ext hX5
  replace hq3 := hX5.old _ _ hq3
  replace hL3 := hL3.ext hX5
  obtain ⟨es, clock, F, rfl, hMR, hFK⟩ := hMM5
  replace h4 := hX5.old _ _ h4
  replace h5 := hX5.old _ _ h5
  refine ⟨fun _ hI => (hI.drop 99).shrink hX5.old, ?_⟩
  refine WA.know 16 (nt a) rfl (congrArg it hpa) (WA.so rfl (SO.altersN (own := [_, _, _]) (hpc := [(mb, .map es clock)]) (S1 := [mb]) (fun _ h => h) (fun h => h) (fun _ h => h) (fun _ h => h) (Enters.func CaF.h rfl) (fun w1 hI => depth_g T a1 a2 a3 _ _ _ c1 c2 c3 _ w1 hR3 qb mb hq3 hI.imm hT hL3 a ha m hmm al cl hS5 [(mb, .map es clock)] ⟨es, clock, F, rfl, hMR, hFK⟩ hI)) rfl ?_)
  rintro _ D6 _ ⟨hp6, hX6, ⟨rfl, hMM6⟩, rfl⟩
  refine ⟨fun _ hI => (hI.nil.shrink hX6.old).shrink hX5.old, ?_⟩
  refine WA.so rfl (SO.store 1 rfl SzF.h rfl rfl rfl rfl (zqb rfl) (oneB_spec rfl)) rfl ?_
  rintro _ _ _ ⟨rfl, rfl, rfl⟩
  refine ⟨fun _ hI => (hI.nil.shrink hX6.old).shrink hX5.old, ?_⟩
  refine WA.so rfl (SO.store 0 rfl SzF.h rfl rfl rfl rfl (zqb rfl) (oneB_spec rfl)) rfl ?_
  rintro _ _ _ ⟨rfl, rfl, rfl⟩
  refine ⟨fun _ hI => (hI.nil.shrink hX6.old).shrink hX5.old, ?_⟩
  refine g [[3]] ?_
  refine WP.endD [_, _] [_, _] rfl rfl CaF.h (fun w hI => idle78 _ _) rfl zV (fun w hI => ⟨congrArg Ending.returned (by rw [hO0 hne]; rfl), hI.keep⟩)
theorem Depth_g (T : Tide) (a1 a2 a3 : Option Addr) (n1 n2 n3 c1 c2 c3 : Nat) (D : Imm) (w : World) (hR : TideR D T a1 n1 a2 n2 a3 n3) (hH : Holds D w) (hL : LibW D) (p m : Int) : Gives Tryz.prog 24 [.agg #[.slice a1 n1 c1, .slice a2 n2 c2, .slice a3 n3 c3], it p, it m] w (.tuple #[.agg #[it (DepthOut T p m).1.lo, it (DepthOut T p m).1.hi], it (DepthOut T p m).2]) := by
  cases hv : tideB T with
  | false => exact Depth_1 T a1 a2 a3 n1 n2 n3 c1 c2 c3 D w hR hH hL p m hv
  | true =>
    cases hw : (placeB T p && minuteB T m) with
    | false => exact Depth_2 T a1 a2 a3 n1 n2 n3 c1 c2 c3 D w hR hH hL p m hv hw
    | true => exact Depth_3 T a1 a2 a3 n1 n2 n3 c1 c2 c3 D w hR hH hL p m hv hw
end Go.Proofs.YtejgofaeafphjaaGreatDoor
namespace Go.Proofs.YtejgofaeafphjaaGreatDoor
open Go.W Go.Ti
theorem ext_roundN {φ : Nat → Prop} {k : Nat} (h : ∀ j, j < k → φ j) (hk : φ k) : ∀ j, j < k + 1 → φ j := fun j hj => by
  rcases Nat.lt_or_ge j k with h1 | h1
  · exact h j h1
  obtain rfl : j = k := by omega
  exact hk
theorem First_1 (T : Tide) (a1 a2 a3 : Option Addr) (n1 n2 n3 c1 c2 c3 : Nat) (D : Imm) (w : World) (hR : TideR D T a1 n1 a2 n2 a3 n3) (hH : Holds D w) (hL : LibW D) (p l m : Int) (hv : tideB T = false) : Gives Tryz.prog 47 [.agg #[.slice a1 n1 c1, .slice a2 n2 c2, .slice a3 n3 c3], it p, it l, it m, .bool true] w (.tuple #[it (FirstOut T p l m).1, it (FirstOut T p l m).2]) := by
  unfold Gives
  obtain rfl := hR.mark.len'
  obtain rfl := hR.sand.len'
  obtain rfl := hR.look.len'
  obtain ⟨hl1, hl2, hl3⟩ := hR.len
  have hO : FirstOut T p l m = (0, 1) := by unfold FirstOut tideE; simp [hv]
  refine enD Tryz.func47 rfl Tryz.ntmps47 (Inv.start hH) (g [[1],[1,0,1,2,3,4]] ?_)
  refine WL.so (SO.box rfl rfl) rfl (zw fun b5 hb5 => ?_)
  refine WL.so (SO.box rfl rfl) rfl (zw fun b6 hb6 => ?_)
  refine WL.so (SO.box rfl rfl) rfl (zw fun b7 hb7 => ?_)
  refine WL.so (SO.box rfl rfl) rfl (zw fun b8 hb8 => ?_)
  refine g [[1]] ?_
  refine WL.so (SO.alloc ZvF.h rfl) rfl (zw fun b11 hb11 => ?_)
  refine g [[3],[2,11,10,8,7,6,5,4]] ?_
  refine WL.defer rfl (g [[3]] ?_)
  refine WC.freezeN 3 b6 (.cells (List.toArray [it p]) 3 (0, 0)) rfl rfl hb6 (fun D1 hX1 h6 => ?_)
  replace hR := hR.ext hX1
  replace hL := hL.ext hX1
  refine WC.freezeN 2 b7 (.cells (List.toArray [it l]) 3 (0, 0)) rfl rfl hb7 (fun D2 hX2 h7 => ?_)
  replace hR := hR.ext hX2
  replace hL := hL.ext hX2
  replace h6 := hX2.old _ _ h6
  refine WC.freezeN 1 b8 (.cells (List.toArray [it m]) 3 (0, 0)) rfl rfl hb8 (fun D8 hX8 h8 => ?_)
  replace hR := hR.ext hX8
  replace hL := hL.ext hX8
  replace h6 := hX8.old _ _ h6
  replace h7 := hX8.old _ _ h7
  refine g [[3,11,10,8,7,6,5,4]] ?_
  refine WL.nf rfl (fun w hI => openD_1 T a1 a2 a3 _ _ _ c1 c2 c3 _ w hR hI.imm 123 [pt b6, pt b7, pt b8] ((placeB T p && (deepB l && minuteB T m))) CaF.h hv) (g [[1]] ?_)
  refine WP.panicD (k := 0) [_, _] [_, _] rfl CaF.h rfl (fun w hI => catch122 _ _ _ _ _ (hI.own _ _ (List.mem_of_getElem? (i := 0) rfl))) rfl zV (fun w hI => ⟨congrArg Ending.returned (by rw [hO]; rfl), hI.keep⟩)
theorem First_2 (T : Tide) (a1 a2 a3 : Option Addr) (n1 n2 n3 c1 c2 c3 : Nat) (D : Imm) (w : World) (hR : TideR D T a1 n1 a2 n2 a3 n3) (hH : Holds D w) (hL : LibW D) (p l m : Int) (hv : tideB T = true) (hw : ((placeB T p && (deepB l && minuteB T m))) = false) : Gives Tryz.prog 47 [.agg #[.slice a1 n1 c1, .slice a2 n2 c2, .slice a3 n3 c3], it p, it l, it m, .bool true] w (.tuple #[it (FirstOut T p l m).1, it (FirstOut T p l m).2]) := by
  unfold Gives
  obtain rfl := hR.mark.len'
  obtain rfl := hR.sand.len'
  obtain rfl := hR.look.len'
  obtain ⟨hl1, hl2, hl3⟩ := hR.len
  have hT := tideB_iff.1 hv
  have hO : FirstOut T p l m = (0, 2) := by unfold FirstOut tideE; rw [hw]; simp [hv]
  refine enD Tryz.func47 rfl Tryz.ntmps47 (Inv.start hH) (g [[1],[1,0,1,2,3,4]] ?_)
  refine WL.so (SO.box rfl rfl) rfl (zw fun b5 hb5 => ?_)
  refine WL.so (SO.box rfl rfl) rfl (zw fun b6 hb6 => ?_)
  refine WL.so (SO.box rfl rfl) rfl (zw fun b7 hb7 => ?_)
  refine WL.so (SO.box rfl rfl) rfl (zw fun b8 hb8 => ?_)
  refine g [[1]] ?_
  refine WL.so (SO.alloc ZvF.h rfl) rfl (zw fun b11 hb11 => ?_)
  refine g [[3],[2,11,10,8,7,6,5,4]] ?_
  refine WL.defer rfl (g [[3]] ?_)
  refine WC.freezeN 3 b6 (.cells (List.toArray [it p]) 3 (0, 0)) rfl rfl hb6 (fun D1 hX1 h6 => ?_)
  replace hR := hR.ext hX1
  replace hL := hL.ext hX1
  refine WC.freezeN 2 b7 (.cells (List.toArray [it l]) 3 (0, 0)) rfl rfl hb7 (fun D2 hX2 h7 => ?_)
  replace hR := hR.ext hX2
  replace hL := hL.ext hX2
  replace h6 := hX2.old _ _ h6
  refine WC.freezeN 1 b8 (.cells (List.toArray [it m]) 3 (0, 0)) rfl rfl hb8 (fun D8 hX8 h8 => ?_)
  replace hR := hR.ext hX8
  replace hL := hL.ext hX8
  replace h6 := hX8.old _ _ h6
  replace h7 := hX8.old _ _ h7
  refine g [[3,11,10,8,7,6,5,4]] ?_
  refine WL.nf rfl (fun w hI => openD_2 T a1 a2 a3 _ _ _ c1 c2 c3 _ w hR hI.imm 123 [pt b6, pt b7, pt b8] CaF.h (fun _ q mb D' w' hX hq hH => by have := firstIs_g T a1 a2 a3 _ _ _ c1 c2 c3 D' w' (hR.ext hX) q mb hq hH hT.nm.1 p l m b6 b7 b8 (hX.old _ _ h6) (hX.old _ _ h7) (hX.old _ _ h8); rwa [hw] at this) hv) (g [[1]] ?_)
  refine WP.panicD (k := 0) [_, _] [_, _] rfl CaF.h rfl (fun w hI => catch122 _ _ _ _ _ (hI.own _ _ (List.mem_of_getElem? (i := 0) rfl))) rfl zV (fun w hI => ⟨congrArg Ending.returned (by rw [hO]; rfl), hI.keep⟩)
theorem First_3 (T : Tide) (a1 a2 a3 : Option Addr) (n1 n2 n3 c1 c2 c3 : Nat) (D : Imm) (w : World) (hR : TideR D T a1 n1 a2 n2 a3 n3) (hH : Holds D w) (hL : LibW D) (p l m : Int) (hv : tideB T = true) (hw : ((placeB T p && (deepB l && minuteB T m))) = true) : Gives Tryz.prog 47 [.agg #[.slice a1 n1 c1, .slice a2 n2 c2, .slice a3 n3 c3], it p, it l, it m, .bool true] w (.tuple #[it (FirstOut T p l m).1, it (FirstOut T p l m).2]) := by
  unfold Gives
  obtain rfl := hR.mark.len'
  obtain rfl := hR.sand.len'
  obtain rfl := hR.look.len'
  obtain ⟨hl1, hl2, hl3⟩ := hR.len
  have hT := tideB_iff.1 hv
  have hO : tdL T = [] → FirstOut T p l m = (0, 10) := fun h => by unfold FirstOut tideE; rw [hw]; simp [hv, h]
  have hO0 : tdL T ≠ [] → FirstOut T p l m = match firstF T p.toNat l (lastM T - m + 1).toNat m with | some n => (n, 0) | none => (0, 4) := fun h => by unfold FirstOut tideE; rw [hw]; simp [hv, h]; rfl
  simp only [Bool.and_eq_true] at hw
  have hmm : firstM T ≤ m ∧ m ≤ lastM T := of_decide_eq_true hw.2.2
  have hw' := hw
  replace hw : (placeB T p && (deepB l && minuteB T m)) = true := by simp only [Bool.and_eq_true]; exact hw'
  have hm0 := (minute_num hT hw'.2.2)
  have hml := (hT.mark (T.marks.length - 1) (by have := hT.nm; omega)).1.2
  have hml' : lastM T ≤ 240 := hml
  obtain ⟨a, hpa, ha⟩ := placeB_nat hw'.1
  have hpt : p.toNat = a := by omega
  rw [hpt] at hO0
  refine enD Tryz.func47 rfl Tryz.ntmps47 (Inv.start hH) (g [[1],[1,0,1,2,3,4]] ?_)
  refine WL.so (SO.box rfl rfl) rfl (zw fun b5 hb5 => ?_)
  refine WL.so (SO.box rfl rfl) rfl (zw fun b6 hb6 => ?_)
  refine WL.so (SO.box rfl rfl) rfl (zw fun b7 hb7 => ?_)
  refine WL.so (SO.box rfl rfl) rfl (zw fun b8 hb8 => ?_)
  refine g [[1]] ?_
  refine WL.so (SO.alloc ZvF.h rfl) rfl (zw fun b11 hb11 => ?_)
  refine g [[3],[2,11,10,8,7,6,5,4]] ?_
  refine WL.defer rfl (g [[3]] ?_)
  refine WC.freezeN 3 b6 (.cells (List.toArray [it p]) 3 (0, 0)) rfl rfl hb6 (fun D1 hX1 h6 => ?_)
  replace hR := hR.ext hX1
  replace hL := hL.ext hX1
  refine WC.freezeN 2 b7 (.cells (List.toArray [it l]) 3 (0, 0)) rfl rfl hb7 (fun D2 hX2 h7 => ?_)
  replace hR := hR.ext hX2
  replace hL := hL.ext hX2
  replace h6 := hX2.old _ _ h6
  refine WC.freezeN 1 b8 (.cells (List.toArray [it m]) 3 (0, 0)) rfl rfl hb8 (fun D8 hX8 h8 => ?_)
  replace hR := hR.ext hX8
  replace hL := hL.ext hX8
  replace h6 := hX8.old _ _ h6
  replace h7 := hX8.old _ _ h7
  refine g [[3,11,10,8,7,6,5,4]] ?_
  refine WL.so (SO.news (Enters.func CaF.h rfl) (fun w hI => openD_ok T a1 a2 a3 _ _ _ c1 c2 c3 _ w hR hI.imm 123 [pt b6, pt b7, pt b8] CaF.h (fun _ q mb D' w' hX hq hH => by have := firstIs_g T a1 a2 a3 _ _ _ c1 c2 c3 D' w' (hR.ext hX) q mb hq hH hT.nm.1 p l m b6 b7 b8 (hX.old _ _ h6) (hX.old _ _ h7) (hX.old _ _ h8); rwa [hw] at this) hv)) rfl ?_
  rintro _ D3 _ ⟨hp3, hX3, ⟨qb, mb, rfl, hq3, rfl⟩, rfl⟩
  have hR3 := hR.ext hX3
  have hL3 := hL.ext hX3
  refine g [[4]] ?_
  replace h6 := hX3.old _ _ h6
  replace h7 := hX3.old _ _ h7
  replace h8 := hX3.old _ _ h8
  refine g [[2,12,11,10,8,7,6,4]] ?_
  refine WL.so  (SO.altersV (own := [_, _]) (hpc := [(mb, .map #[] 0)]) (S1 := [mb]) (fun _ h => h) (fun h => h) (fun _ h => h) (fun _ h => h) (Enters.func CaF.h rfl) (fun w1 _ hI => toldD_g T a1 a2 a3 _ _ _ c1 c2 c3 D3 w1 hR3 qb mb hq3 hI.imm hT hL3.done _ (mapK_nil T mb) hI) ?_) rfl ?_
  · rintro _ D5 hp5 ⟨rfl, hnil, hMM5⟩ hX5
    refine g [[1]] ?_
    refine WP.panicD (k := 0) [_, _] [_, _] rfl CaF.h rfl (fun w hI => catch122 _ _ _ _ _ (hI.own _ _ (List.mem_of_getElem? (i := 0) rfl))) rfl zV (fun w hI => ⟨congrArg Ending.returned (by rw [hO hnil]; rfl), hI.keep⟩)
  rintro _ D5 _ ⟨hp5, hX5, ⟨hne, al, cl, rfl, hS5, hMM5⟩, rfl⟩
  replace hR3 := hR3.ext hX5
  replace hq3 := hX5.old _ _ hq3
  replace hL3 := hL3.ext hX5
  obtain ⟨es, clock, F, rfl, hMR, hFK⟩ := hMM5
  replace h6 := hX5.old _ _ h6
  replace h7 := hX5.old _ _ h7
  replace h8 := hX5.old _ _ h8
  refine g [[5],[6,13,12,11,10,8,7,6,4]] ?_
  refine WC.loop (fun y : Nat × Hp => [(4, .bool true), (6, pt b6), (7, pt b7), (11, pt b11), (12, pt qb), (13, .slice al (tdL T).length cl), (14, it (m + ((y.1 : Nat) : Int)))]) (fun y => (b11, .cells (List.toArray [it 0]) 51 (0, 0)) :: (b5, .cells (List.toArray [.slice a1 T.marks.length c1, .slice a2 T.sand.length c2, .slice a3 T.looks.length c3]) 31 (0, 0)) :: y.2) (fun _ => D5) (fun y => (y.1 ≤ (lastM T - m + 1).toNat ∧ ∀ j, j < y.1 → ¬ l ≤ (depthS T a (m + (j : Int))).lo) ∧ MapK T mb y.2) (fun y => (lastM T - m + 1).toNat - y.1) (0, [(mb, .map es clock)]) ⟨⟨by omega, by intro j hj; omega⟩, es, clock, F, rfl, hMR, hFK⟩ (fun a w h => at_fr h ⟨rfl, rfl, rfl, rfl, rfl, rfl, by show some (it _) = some (it _); congr 2; omega, trivial⟩) ?_
  rintro ⟨k, hM2⟩ ⟨⟨hk, hd⟩, hMM2⟩
  dsimp only at hk hd hMM2
  clear hMR hFK
  obtain ⟨es, clock, F, rfl, hMR, hFK⟩ := hMM2
  refine g [[2],[3,4,6,7,11,12,13,14]] ?_
  refine WL.cl rfl (fun w hI => last_g T a1 a2 a3 _ _ _ c1 c2 c3 _ _ hR3 qb mb hq3 hI.imm hT.nm.1) (g [[3]] ?_)
  refine WC.cond rfl (fun c26 => ?_) (fun c26 => ?_)
  · try simp only [zq] at c26
    have hkN : k < (lastM T - m + 1).toNat := by omega
    have hmk : minuteB T (m + ((k : Nat) : Int)) = true := by unfold minuteB; rw [decide_eq_true_eq]; omega
    refine g [[5],[5,4,6,7,11,12,13,14]] ?_
    refine WL.know 31 (nt a) rfl (congrArg it hpa) (WL.so (SO.altersN (own := [_, _]) (hpc := [(mb, .map es clock)]) (S1 := [mb]) (fun _ h => h) (fun h => h) (fun _ h => h) (fun _ h => h) (Enters.func CaF.h rfl) (fun w1 hI => depth_g T a1 a2 a3 _ _ _ c1 c2 c3 _ w1 hR3 qb mb hq3 hI.imm hT hL3 a ha (m + ((k : Nat) : Int)) hmk al cl hS5 [(mb, .map es clock)] ⟨es, clock, F, rfl, hMR, hFK⟩ hI)) rfl ?_)
    rintro _ D6 _ ⟨hp6, hX6, ⟨rfl, hMM6⟩, rfl⟩
    have h7' := hX6.old _ _ h7
    refine WL.so (SO.alloc ZvF.h rfl) rfl (zw fun b15 hb15 => ?_)
    refine g [[4],[5,15,4,6,7,11,12,13,14]] ?_
    refine WL.ydg rfl (Yd.l1 rfl (Rd.imm h7' rfl)) rfl (g [[3]] ?_)
    refine WL.part 41 rfl (fun g41 => ?_) (fun g41 => ?_)
    · try simp only [zq] at g41
      refine g [[13],[12,4,6,7,11,12,13,14]] ?_
      refine WP.endD [_, _] [_, _] rfl rfl CaF.h (fun w hI => idle122 _ _) rfl zV (fun w hI => ⟨congrArg Ending.returned (by rw [hO0 hne, first_some _ _ k hd (by omega) hkN]; rfl), hI.keep⟩)
    try simp only [zq] at g41
    refine g [[15],[5,4,6,7,11,12,13,14]] ?_
    refine WP.again (⟨k + 1, hp6⟩ : Nat × Hp) ⟨⟨by simp only; omega, ext_roundN hd (by omega)⟩, hMM6⟩ (by simp only; omega) (fun aa ww h => at_dropS 1 h ⟨rfl, rfl, rfl, rfl, rfl, rfl, by show some (it _) = some (it _); congr 2; push_cast; omega, trivial⟩ (List.Perm.refl _) hX6.old)
  try simp only [zq] at c26
  have hkN : k = (lastM T - m + 1).toNat := by omega
  refine g [[6],[6,11]] ?_
  refine WP.endD [_, _] [_, _] rfl rfl CaF.h (fun w hI => idle122 _ _) rfl zV (fun w hI => ⟨congrArg Ending.returned (by rw [hO0 hne, first_none _ _ (fun j hj => hd j (by omega))]; rfl), hI.keep⟩)
theorem First_g (T : Tide) (a1 a2 a3 : Option Addr) (n1 n2 n3 c1 c2 c3 : Nat) (D : Imm) (w : World) (hR : TideR D T a1 n1 a2 n2 a3 n3) (hH : Holds D w) (hL : LibW D) (p l m : Int) : Gives Tryz.prog 47 [.agg #[.slice a1 n1 c1, .slice a2 n2 c2, .slice a3 n3 c3], it p, it l, it m, .bool true] w (.tuple #[it (FirstOut T p l m).1, it (FirstOut T p l m).2]) := by
  cases hv : tideB T with
  | false => exact First_1 T a1 a2 a3 n1 n2 n3 c1 c2 c3 D w hR hH hL p l m hv
  | true =>
    cases hw : (placeB T p && (deepB l && minuteB T m)) with
    | false => exact First_2 T a1 a2 a3 n1 n2 n3 c1 c2 c3 D w hR hH hL p l m hv hw
    | true => exact First_3 T a1 a2 a3 n1 n2 n3 c1 c2 c3 D w hR hH hL p l m hv hw
end Go.Proofs.YtejgofaeafphjaaGreatDoor
namespace Go.Proofs.YtejgofaeafphjaaGreatDoor
open Go.W Go.Ti
def prodW (l : List Int) (k : Nat) : Int := (l.take k).foldl (fun n x => IntKind.i64.wrap (n * x)) 1
theorem prodW_succ {l : List Int} {k : Nat} (hk : k < l.length) : prodW l (k + 1) = IntKind.i64.wrap (prodW l k * gt l k) := by
  unfold prodW
  rw [take_gt hk, List.foldl_append]; rfl
def manyW (f : Nat → Int) (T : Tide) (h : Hts) : Nat → Int
  | 0 => 1
  | k + 1 => prodW [manyW f T h k, f (setU T h k)] 2
theorem ones64_ex : ∃ f : Nat → Int, ∀ (x : Nat) (w : World), Gives Tryz.prog 271 [ut x] w (it (f x)) := by
  apply Exists.intro
  intro x w
  unfold Gives
  refine en Tryz.func271 rfl Tryz.ntmps271 zI (g [[1],[5,0],[2,2,0]] ?_)
  refine WL.yd (Yd.shr rfl rfl (by omega)) rfl (WL.yd (Yd.andW rfl rfl) rfl (g [[1]] ?_))
  refine WL.yd (Yd.andW rfl rfl) rfl (WL.yd (Yd.addW rfl rfl) rfl (g [[4],[2,0,2]] ?_))
  refine WL.yd (Yd.shr rfl rfl (by omega)) rfl (WL.yd (Yd.andW rfl rfl) rfl (g [[1]] ?_))
  refine WL.yd (Yd.andW rfl rfl) rfl (WL.yd (Yd.addW rfl rfl) rfl (g [[4],[2,0,2]] ?_))
  refine WL.yd (Yd.shr rfl rfl (by omega)) rfl (g [[1]] ?_)
  refine WL.yd (Yd.addW rfl rfl) rfl (WL.yd (Yd.andW rfl rfl) rfl (g [[4],[3,0,2]] ?_))
  refine WL.yd (Yd.shr rfl rfl (by omega)) rfl (WL.yd (Yd.addW rfl rfl) rfl (g [[4],[3,0,2]] ?_))
  refine WL.yd (Yd.shr rfl rfl (by omega)) rfl (WL.yd (Yd.addW rfl rfl) rfl (g [[4],[3,0,2]] ?_))
  refine WL.yd (Yd.shr rfl rfl (by omega)) rfl (WL.yd (Yd.addW rfl rfl) rfl (g [[4],[2,0,2]] ?_))
  refine WL.yd (Yd.convW UnF.h UnF.h rfl) rfl (WL.yd (Yd.andW rfl rfl) rfl (g [[4]] ?_))
  refine WP.ret1 rfl rfl rfl (RV.tmp rfl) (fun w hI => ⟨rfl, hI.keep⟩)
theorem prod_g (l : List Int) (a : Option Addr) (n c : Nat) (D : Imm) (w : World) (hS : SlL D 1 (l.map intC) a n) (hn : n ≤ 1000) (hH : Holds D w) : Gives Tryz.prog 270 [.slice a n c] w (it (prodW l l.length)) := by
  unfold Gives
  obtain rfl := hS.len'
  refine en Tryz.func270 rfl Tryz.ntmps270 (Inv.start hH) (g [[1],[5,0],[6,2,0],[7,3,2,0]] ?_)
  refine WC.loopF (fun k : Nat => [(3, it (prodW l k)), (6, .slice a l.length c), (7, nt l.length), (8, nt k)]) (fun k => k ≤ l.length) (fun k => l.length - k) 0 (by omega) (by exact ⟨rfl, rfl, rfl, rfl, trivial⟩) ?_
  intro k hk
  refine g [[1],[5,3,6,7,8]] ?_
  refine WC.cond rfl (fun c9 => ?_) (fun c9 => ?_)
  · try simp only [zq] at c9
    have hkl : k < l.length := by omega
    refine g [[5],[1,3,6,7,8]] ?_
    refine WL.yd (Yd.ix rfl rfl (hS.addr k (by omega))) rfl (WL.yd (Yd.l1 rfl ((hS.at k (by omega)).rd 0 rfl)) rfl (g [[3],[3,5,3,6,7,8]] ?_))
    refine WL.yd (Yd.mulW rfl rfl) rfl (g [[4],[4,3,6,7,8]] ?_)
    exact WP.againF (k + 1) (by omega) (by omega) ⟨by rw [prodW_succ hkl]; rfl, rfl, rfl, rfl, trivial⟩ (fun _ h => h) (fun h => h)
  try simp only [zq] at c9
  obtain rfl : k = l.length := by omega
  refine g [[6],[6,3]] ?_
  refine WP.ret1 rfl rfl rfl (RV.tmp rfl) (fun w hI => ⟨rfl, hI.keep⟩)
theorem many_g (f : Nat → Int) (hf : ∀ (x : Nat) (w : World), Gives Tryz.prog 271 [ut x] w (it (f x))) (T : Tide) (hns : T.sand.length ≤ 4) (h : Hts) (D : Imm) (w : World) (hH : Holds D w) : Gives Tryz.prog 220 [tdV T h, nt T.sand.length] w (it (manyW f T h T.sand.length)) := by
  unfold Gives
  refine en Tryz.func220 rfl Tryz.ntmps220 (Inv.start hH) (g [[1],[1,0,1]] ?_)
  refine WL.so (SO.box rfl rfl) rfl (zw fun b2 hb2 => ?_)
  refine g [[4],[6,4,2,1],[3,5,4,2,1]] ?_
  refine WL.yd (Yd.sliceArr (h := T.sand.length) Tryz.underlying234 Tryz.sizeOf233 rfl rfl hns) rfl (g [[5]] ?_)
  refine WC.loopF (fun k : Nat => [(5, it (manyW f T h k)), (10, .slice (some ⟨b2, 0 + 4, none⟩) T.sand.length 4), (11, nt T.sand.length), (12, nt k)]) (fun k => k ≤ T.sand.length) (fun k => T.sand.length - k) 0 (by omega) (by exact ⟨rfl, rfl, rfl, rfl, trivial⟩) ?_
  intro k hk
  refine g [[1],[5,5,10,11,12]] ?_
  refine WC.cond rfl (fun c13 => ?_) (fun c13 => ?_)
  · try simp only [zq] at c13
    have hkl : k < T.sand.length := by omega
    have hcell : (tdC T h)[0 + 4 + (k : Int).toNat * 1]? = some (ut (setU T h k)) := by rw [Int.toNat_natCast, tdC_rd T h (by omega), if_pos hkl]
    refine g [[5],[1,5,10,11,12]] ?_
    refine WL.yd (Yd.ix rfl rfl (rfl)) rfl (WL.yd (Yd.l1 rfl (Rd.own (k := 0) rfl hcell)) rfl (g [[3],[3,7,5,10,11,12]] ?_))
    refine WL.cl rfl (fun w hI => hf _ _) (WL.so (SO.buildSlice UnF.h SzF.h ZvF.h rfl rfl rfl rfl (cs := [_, _]) rfl) rfl ?_)
    rintro _ _ _ ⟨b19, hb19, rfl, rfl, rfl⟩
    refine WL.freezeN 0 b19 (.cells (List.toArray [it (manyW f T h k), it (f (setU T h k))]) 3 (0, 0)) rfl rfl hb19 (fun D2 hX2 h19 => ?_)
    refine WL.cl rfl (fun w hI => prod_g [manyW f T h k, f (setU T h k)] (some ⟨b19, 0, none⟩) 2 2 D2 _ (SlL.ofBlock (f := intC) (l := [manyW f T h k, f (setU T h k)]) (rest := []) (fun _ => rfl) h19) (by omega) hI.imm) (g [[4],[4,5,10,11,12]] ?_)
    exact WP.againS (k + 1) (by omega) (by omega) ⟨rfl, rfl, rfl, rfl, trivial⟩ (fun _ h => h) (fun h => h) hX2.old
  try simp only [zq] at c13
  obtain rfl : k = T.sand.length := by omega
  refine g [[6],[6,5]] ?_
  refine WP.ret1 rfl rfl rfl (RV.tmp rfl) (fun w hI => ⟨rfl, hI.keep⟩)
theorem countIs_g (q : Nat) (w : World) : Gives Tryz.prog 219 [pt q] w (.bool true) := by
  unfold Gives
  refine en Tryz.func219 rfl Tryz.ntmps219 zI (g [[1]] ?_)
  refine WC.ofFr [] trivial (g [[5],[5,2]] ?_)
  refine WP.ret1 rfl rfl rfl (RV.tmp rfl) (fun w hI => ⟨rfl, hI.keep⟩)
theorem Count_1 (T : Tide) (a1 a2 a3 : Option Addr) (n1 n2 n3 c1 c2 c3 : Nat) (D : Imm) (w : World) (hR : TideR D T a1 n1 a2 n2 a3 n3) (hH : Holds D w) (hL : LibW D) (hv : tideB T = false) : Makes Tryz.prog 149 [.agg #[.slice a1 n1 c1, .slice a2 n2 c2, .slice a3 n3 c3]] w D (fun v _ => ∃ n, v = .tuple #[it n, it 1]) := by
  unfold Makes
  obtain rfl := hR.mark.len'
  obtain rfl := hR.sand.len'
  obtain rfl := hR.look.len'
  obtain ⟨hl1, hl2, hl3⟩ := hR.len
  refine enD Tryz.func149 rfl Tryz.ntmps149 (Inv.start hH) (g [[1],[1,0]] ?_)
  refine WL.so (SO.box rfl rfl) rfl (zw fun b1 hb1 => ?_)
  refine g [[1]] ?_
  refine WL.so (SO.alloc ZvF.h rfl) rfl (zw fun b3 hb3 => ?_)
  refine g [[3],[2,3,2,1]] ?_
  refine WL.defer rfl (g [[3],[2,3,2,1]] ?_)
  refine WL.nf rfl (fun w hI => openD_1 T a1 a2 a3 _ _ _ c1 c2 c3 _ w hR hI.imm 219 [] true CaF.h hv) (g [[1]] ?_)
  refine WP.panicD (k := 0) [_, _] [_, _] rfl CaF.h rfl (fun w hI => catch218 _ _ _ _ _ (hI.own _ _ (List.mem_of_getElem? (i := 0) rfl))) rfl zV (fun w hI => ⟨_, D, rfl, hI.keep, hI.imm, DExt.refl _ _, 0, rfl⟩)
theorem Count_3 (T : Tide) (a1 a2 a3 : Option Addr) (n1 n2 n3 c1 c2 c3 : Nat) (D : Imm) (w : World) (hR : TideR D T a1 n1 a2 n2 a3 n3) (hH : Holds D w) (hL : LibW D) (hv : tideB T = true) : Makes Tryz.prog 149 [.agg #[.slice a1 n1 c1, .slice a2 n2 c2, .slice a3 n3 c3]] w D (fun v _ => ∃ n, v = .tuple #[it n, it 0]) := by
  unfold Makes
  obtain rfl := hR.mark.len'
  obtain rfl := hR.sand.len'
  obtain rfl := hR.look.len'
  obtain ⟨hl1, hl2, hl3⟩ := hR.len
  have hT := tideB_iff.1 hv
  obtain ⟨f, hf⟩ := ones64_ex
  refine enM Tryz.func149 rfl Tryz.ntmps149 (Inv.start hH) (g [[1],[1,0]] ?_)
  refine WL.so (SO.box rfl rfl) rfl (zw fun b1 hb1 => ?_)
  refine g [[1]] ?_
  refine WL.so (SO.alloc ZvF.h rfl) rfl (zw fun b3 hb3 => ?_)
  refine g [[3],[2,3,2,1]] ?_
  refine WL.defer rfl (g [[3],[2,3,2,1]] ?_)
  refine WL.so (SO.news (Enters.func CaF.h rfl) (fun w hI => openD_ok T a1 a2 a3 _ _ _ c1 c2 c3 _ w hR hI.imm 219 [] CaF.h (fun _ q mb D' w' hX hq hH => countIs_g q w') hv)) rfl ?_
  rintro _ D3 _ ⟨hp3, hX3, ⟨qb, mb, rfl, hq3, rfl⟩, rfl⟩
  have hR3 := hR.ext hX3
  have hL3 := hL.ext hX3
  refine WL.so (SO.alloc ZvF.h rfl) rfl (zw fun b4 hb4 => ?_)
  refine g [[4],[1,4,3,2]] ?_
  refine WL.so (SO.alloc ZvF.h rfl) rfl (zw fun b5 hb5 => ?_)
  refine g [[5]] ?_
  refine WC.freezeN 1 b4 (.cells (List.toArray [pt qb]) 134 (0, 0)) rfl rfl hb4 (fun D5 hX5 h4 => ?_)
  replace hR3 := hR3.ext hX5
  replace hq3 := hX5.old _ _ hq3
  replace hL3 := hL3.ext hX5
  refine g [[0,5,4,3,2]] ?_
  refine WC.drawD [] (pz [1,3,4,6]) zk zk zX (fun _ hI => hI.nil) (g [[2]] ?_)
  refine WA.so rfl (SO.callP CaF.h rfl (fun w hI => every_g T a1 a2 a3 _ _ _ c1 c2 c3 _ _ hR3 qb mb hq3 hI.imm hT)) rfl ?_
  rintro _ _ _ ⟨rfl, rfl, rfl⟩
  refine ⟨fun _ hI => hI.nil, ?_⟩
  refine WA.so rfl (SO.makes (Enters.func Tryz.call171 rfl) (fun w hI => truthsD_g qb _ _ _ hI.imm)) rfl ?_
  rintro _ D4 _ ⟨hX4, ⟨bs, bm, rfl, h1, hm⟩, rfl⟩
  replace hR3 := hR3.ext hX4
  replace hq3 := hX4.old _ _ hq3
  replace hL3 := hL3.ext hX4
  replace h4 := hX4.old _ _ h4
  refine ⟨fun _ hI => hI.nil.shrink hX4.old, ?_⟩
  refine g [[3],[0,2,3,4,5,13]] ?_
  refine WC.hpEq (hp' := [(b5, .cells (List.toArray [it 0]) 3 (0, 0)), (b3, .cells (List.toArray [it 0]) 51 (0, 0)), (b1, .cells (List.toArray [.slice a1 T.marks.length c1, .slice a2 T.sand.length c2, .slice a3 T.looks.length c3]) 31 (0, 0))] ++ [(mb, .map #[] 0)]) rfl (WC.hpPerm ([(mb, .map #[] 0)] ++ [(b5, .cells (List.toArray [it 0]) 3 (0, 0)), (b3, .cells (List.toArray [it 0]) 51 (0, 0)), (b1, .cells (List.toArray [.slice a1 T.marks.length c1, .slice a2 T.sand.length c2, .slice a3 T.looks.length c3]) 31 (0, 0))]) List.perm_append_comm ?_)
  refine WC.rangeIterT [(mb, .map #[] 0)] _ rfl (mapK_nil T mb) (N := (tdL T).length) (arg := fun k => tdV T (gt (tdL T) k)) (fun w1 hs hD1 => truthsD1_iter T a1 a2 a3 _ _ _ c1 c2 c3 qb mb bs bm D4 w1 hT hR3 hq3 hL3.done h1 hm) rfl Tryz.call235 rfl (fun k _ h => ∃ n : Int, h = [(b5, .cells (List.toArray [it n]) 3 (0, 0)), (b3, .cells (List.toArray [it 0]) 51 (0, 0)), (b1, .cells (List.toArray [.slice a1 T.marks.length c1, .slice a2 T.sand.length c2, .slice a3 T.looks.length c3]) 31 (0, 0))]) (fun _ _ _ => False) (fun _ _ _ _ _ h => h) ⟨0, rfl⟩ ?_ ?_ ?_
  · rintro rec1 l1 Dn0 k D6 _ w1 hrec hk ⟨n, rfl⟩ hX6 hsz
    unfold RoundGN
    have h46 := hX6.old _ _ h4
    have hq6 := hX6.old _ _ hq3
    refine g [[1,14,2,3,4,5]] ?_
    refine WLF.so (zn rfl) (SO.alloc ZvF.h rfl) rfl (zw fun b6 hb6 => ?_)
    refine WLF.so (zn rfl) (SO.store 0 rfl SzF.h rfl rfl rfl rfl (zqb rfl) (tdC_one T _)) rfl (zt (g [[1]] ?_))
    refine WP.iterBegin 1 rfl hrec (g [[1],[0,6,2,3,4,5]] ?_)
    refine WCF.tail 9 [0, 1, 2, 3, 4, 5, 6, 7, 8] rfl zk zk (noLets.blk noLets.round) (g [[8]] ?_)
    refine WQ.know 16 (tdV T (gt (tdL T) k)) rfl rfl (WQ.q rfl (Qt.callP CaF.h rfl (fun w hI => many_g f hf T hT.ns.2 (gt (tdL T) k) _ _ hI.imm)) rfl ?_)
    refine WQ.tailR (WLF.yd (zn rfl) (Yd.addW rfl rfl) rfl (g [[3]] ?_))
    refine WP.iterOnN hrec (h1 := [_, _, _]) (fun _ h => List.mem_cons_of_mem _ h) (fun h => (List.nodup_cons.1 h).2) (DExt.refl _ _) ⟨_, rfl⟩
  · rintro Dn1 D6 hM1 _ hDn1 hX6 hMM1 ⟨n, rfl⟩
    obtain ⟨es1, clock1, F1, rfl, hMR1, hFK1⟩ := hMM1
    refine g [[3],[7,2,3,5]] ?_
    refine WP.retMsD [Dn1] [_, _, _, _] [_, _] [_, _] rfl rfl CaF.h (fun w hI => idleM218 _ _) (fun _ h => h) (fun h => h) rfl zV (fun w hI => ⟨_, D6, rfl, hI.keep, hI.imm, ((hX3.trans hX5 (Nat.le_refl _)).trans hX4 (Nat.le_refl _)).trans hX6 (Nat.le_refl _), n, rfl⟩)
  exact fun _ _ _ _ _ _ _ _ h => h.elim
end Go.Proofs.YtejgofaeafphjaaGreatDoor
namespace Go.Ti
open Go.W (gt gt_of)
def splitB (much : Int) (ps : List Int) : Bool := inB much 0 5000 && decide (ps.length ≤ 6) && ps.all fun p => inB p 0 20
def downN (M A : Nat) (qs : List Nat) (i : Nat) : Nat := M * gt qs i / A
def remN (M A : Nat) (qs : List Nat) (i : Nat) : Nat := M * gt qs i % A
def sumF (f : Nat → Nat) : Nat → Nat
  | 0 => 0
  | n + 1 => sumF f n + f n
def leftN (M A : Nat) (qs : List Nat) (k : Nat) : Nat := M - sumF (downN M A qs) k
def incL (l js : List Nat) : List Nat := js.foldl (fun l i => l.set i (gt l i + 1)) l
def keyS (M A : Nat) (qs : List Nat) (i : Nat) : Int := -(remN M A qs i : Int)
def downL (M A : Nat) (qs : List Nat) (k n : Nat) : List Nat := (List.range n).map fun i => if i < k then downN M A qs i else 0
def splitL (M : Nat) (qs : List Nat) : List Nat := if qs.sum = 0 then List.replicate qs.length 0 else incL (downL M qs.sum qs qs.length qs.length) ((sortT (keyS M qs.sum qs) qs.length).take (leftN M qs.sum qs qs.length))
theorem sumN_take {l : List Nat} {k : Nat} (hk : k < l.length) : (l.take (k + 1)).sum = (l.take k).sum + gt l k := by
  have hg : gt l k = l[k] := by simp [gt, List.getD, hk]
  rw [List.take_succ_eq_append_getElem hk, List.sum_append, hg]
  simp
theorem down_sum (M A : Nat) (qs : List Nat) : ∀ k, k ≤ qs.length → sumF (downN M A qs) k * A + sumF (remN M A qs) k = M * (qs.take k).sum := by
  intro k
  induction k with
  | zero => intro _; simp [sumF]
  | succ k ih =>
    intro hk
    have h1 := ih (by omega)
    have h2 : downN M A qs k * A + remN M A qs k = M * gt qs k := by
      unfold downN remN
      rw [Nat.mul_comm (M * gt qs k / A)]
      exact Nat.div_add_mod _ _
    show (sumF (downN M A qs) k + downN M A qs k) * A + (sumF (remN M A qs) k + remN M A qs k) = _
    rw [sumN_take (by omega), Nat.mul_add, Nat.add_mul]
    omega
theorem rem_sum {M A : Nat} {qs : List Nat} (h0 : 0 < A) : ∀ k, sumF (remN M A qs) k ≤ k * (A - 1) := by
  intro k
  induction k with
  | zero => simp [sumF]
  | succ k ih =>
    unfold sumF
    have : remN M A qs k < A := Nat.mod_lt _ h0
    rw [Nat.succ_mul]
    omega
theorem left_rem {M A : Nat} {qs : List Nat} (hA : A = qs.sum) (h0 : 0 < A) : leftN M A qs qs.length * A = sumF (remN M A qs) qs.length := by
  have h1 := down_sum M A qs qs.length (Nat.le_refl _)
  rw [List.take_length, ← hA] at h1
  unfold leftN
  rw [Nat.sub_mul]
  omega
theorem left_lt {M A : Nat} {qs : List Nat} (hA : A = qs.sum) (h0 : 0 < A) : leftN M A qs qs.length < qs.length := by
  have h1 := left_rem (M := M) hA h0
  have h2 := rem_sum (M := M) (qs := qs) h0 qs.length
  have hn : 0 < qs.length := by
    rcases Nat.eq_zero_or_pos qs.length with h | h
    · have : qs = [] := List.eq_nil_of_length_eq_zero h
      rw [this] at hA
      simp at hA
      omega
    · exact h
  have h3 : qs.length * (A - 1) < qs.length * A := Nat.mul_lt_mul_of_pos_left (by omega) hn
  exact Nat.lt_of_mul_lt_mul_right (a := A) (by omega)
theorem downL_len (M A : Nat) (qs : List Nat) (k n : Nat) : (downL M A qs k n).length = n := by simp [downL]
theorem downL_at (M A : Nat) (qs : List Nat) {k n i : Nat} (hi : i < n) : gt (downL M A qs k n) i = if i < k then downN M A qs i else 0 := by simp [downL, gt, List.getD, hi]
theorem inc_take {l js : List Nat} {k : Nat} (hk : k < js.length) : incL l (js.take (k + 1)) = (incL l (js.take k)).set (gt js k) (gt (incL l (js.take k)) (gt js k) + 1) := by
  have hg : gt js k = js[k] := by simp [gt, List.getD, hk]
  unfold incL
  rw [List.take_succ_eq_append_getElem hk, List.foldl_append, hg]
  rfl
theorem inc_len (l : List Nat) : ∀ js, (incL l js).length = l.length := by
  intro js
  induction js generalizing l with
  | nil => rfl
  | cons j js ih => exact (ih _).trans (by simp)
end Go.Ti
namespace Go.Ti
open Go.W (gt gt_of)
theorem gt_nodup_mem {js : List Nat} (h : js.Nodup) {k : Nat} (hk : k < js.length) : gt js k ∉ js.take k := fun hm => by
  obtain ⟨i, hi, e⟩ := mem_gt hm
  rw [List.length_take] at hi
  have e2 : gt js i = gt js k := by
    rw [← e]; simp [gt, List.getD, List.getElem?_take, show i < k by omega]
  have := nodup_inj h (by omega) hk e2
  omega
theorem mem_take_succ {js : List Nat} {k i : Nat} (hk : k < js.length) : i ∈ js.take (k + 1) ↔ i ∈ js.take k ∨ i = gt js k := by
  have hg : gt js k = js[k] := by simp [gt, List.getD, hk]
  rw [List.take_succ_eq_append_getElem hk, List.mem_append, List.mem_singleton, hg]
theorem inc_at {l js : List Nat} (hjs : js.Nodup) (hlt : ∀ i, i < js.length → gt js i < l.length) : ∀ k, k ≤ js.length → ∀ i, i < l.length → gt (incL l (js.take k)) i = gt l i + if i ∈ js.take k then 1 else 0 := by
  intro k
  induction k with
  | zero => intro _ i hi; simp [incL]
  | succ k ih =>
    intro hk i hi
    have h1 := ih (by omega)
    rw [inc_take (by omega), gt_set _ _ _ _ (by rw [inc_len]; exact hlt k (by omega))]
    by_cases e : gt js k = i
    · subst e
      rw [if_pos rfl, h1 _ hi, if_neg (gt_nodup_mem hjs (by omega)), if_pos ((mem_take_succ (by omega)).2 (.inr rfl))]
    · rw [if_neg e, h1 i hi]
      by_cases hm : i ∈ js.take k
      · rw [if_pos hm, if_pos ((mem_take_succ (by omega)).2 (.inl hm))]
      · rw [if_neg hm, if_neg (fun h => by rcases (mem_take_succ (by omega)).1 h with h | h; exact hm h; exact e h.symm)]
theorem sortT_nodup (key : Nat → Int) (n : Nat) : (sortT key n).Nodup := (sortT_perm key n).nodup_iff.2 List.nodup_range
section
variable {M : Nat} {qs : List Nat}
def ordS (M : Nat) (qs : List Nat) : List Nat := sortT (keyS M qs.sum qs) qs.length
theorem ordS_len : (ordS M qs).length = qs.length := sortT_len _ _
theorem ordS_perm : (ordS M qs).Perm (List.range qs.length) := sortT_perm _ _
theorem ordS_lex {a b : Nat} (hab : a < b) (hb : b < qs.length) : lexB (keyS M qs.sum qs) (gt (ordS M qs) a) (gt (ordS M qs) b) := sortT_lex _ _ hab hb
def tkS (M : Nat) (qs : List Nat) (i : Nat) : Prop := i ∈ (ordS M qs).take (leftN M qs.sum qs qs.length)
instance (i : Nat) : Decidable (tkS M qs i) := inferInstanceAs (Decidable (_ ∈ _))
theorem split_at (h0 : 0 < qs.sum) {i : Nat} (hi : i < qs.length) : gt (splitL M qs) i = downN M qs.sum qs i + if tkS M qs i then 1 else 0 := by
  have hl := left_lt (M := M) (A := qs.sum) rfl h0
  unfold splitL; rw [if_neg (by omega), inc_at (sortT_nodup _ _) (fun i hi => by rw [sortT_len] at hi; rw [downL_len]; exact sortT_lt _ _ hi) _ (by rw [sortT_len]; omega) _ (by rw [downL_len]; exact hi), downL_at _ _ _ hi, if_pos hi]
  rfl
theorem sumF_perm (f : Nat → Nat) (n : Nat) : sumF f n = ((List.range n).map f).sum := by
  induction n with
  | zero => rfl
  | succ n ih => rw [List.range_succ, List.map_append, List.sum_append, ← ih]; simp [sumF]
theorem sum_perm {l m : List Nat} (h : l.Perm m) : l.sum = m.sum := by
  induction h with
  | nil => rfl
  | cons x _ ih => simp [ih]
  | swap x y l => simp; omega
  | trans _ _ ih1 ih2 => exact ih1.trans ih2
theorem sum_le_const {l : List Nat} {c : Nat} (h : ∀ x, x ∈ l → x ≤ c) : l.sum ≤ c * l.length := by
  induction l with
  | nil => simp
  | cons x l ih =>
    have h1 := h x (by simp)
    have h2 := ih fun y hy => h y (by simp [hy])
    simp only [List.sum_cons, List.length_cons, Nat.mul_succ]
    omega
theorem tk_rem (h0 : 0 < qs.sum) {i : Nat} (hi : tkS M qs i) : 0 < remN M qs.sum qs i := by
  rcases Nat.eq_zero_or_pos (remN M qs.sum qs i) with hz | hz
  · exfalso
    obtain ⟨a, ha, rfl⟩ := mem_gt hi
    have hl := left_lt (M := M) (A := qs.sum) rfl h0
    rw [List.length_take, ordS_len] at ha
    have ha2 : a < leftN M qs.sum qs qs.length := by omega
    have e : gt ((ordS M qs).take (leftN M qs.sum qs qs.length)) a = gt (ordS M qs) a := by simp [gt, List.getD, List.getElem?_take, ha2]
    rw [e] at hz
    have hs := left_rem (M := M) (A := qs.sum) rfl h0
    rw [sumF_perm, ← sum_perm (ordS_perm.map (remN M qs.sum qs)), ← List.take_append_drop a (ordS M qs), List.map_append, List.sum_append] at hs
    have h1 : ((ordS M qs).take a |>.map (remN M qs.sum qs)).sum ≤ (qs.sum - 1) * a := by
      have := sum_le_const (l := ((ordS M qs).take a).map (remN M qs.sum qs)) (c := qs.sum - 1) (fun x hx => by
        obtain ⟨y, _, rfl⟩ := List.mem_map.1 hx
        have : remN M qs.sum qs y < qs.sum := Nat.mod_lt _ h0
        omega)
      rw [List.length_map, List.length_take, ordS_len, Nat.min_eq_left (by omega)] at this
      exact this
    have h2 : ((ordS M qs).drop a |>.map (remN M qs.sum qs)).sum ≤ 0 * ((ordS M qs).drop a |>.map (remN M qs.sum qs)).length := by
      refine sum_le_const fun x hx => ?_
      obtain ⟨y, hy, rfl⟩ := List.mem_map.1 hx
      obtain ⟨b, hb, rfl⟩ := mem_gt hy
      rw [List.length_drop, ordS_len] at hb
      have e2 : gt ((ordS M qs).drop a) b = gt (ordS M qs) (a + b) := by simp [gt, List.getD, List.getElem?_drop]
      rw [e2]
      rcases Nat.eq_zero_or_pos b with hb0 | hb0
      · rw [hb0, Nat.add_zero]; omega
      · have := ordS_lex (M := M) (qs := qs) (a := a) (b := a + b) (by omega) (by omega)
        unfold lexB keyS at this
        omega
    have h3 : (qs.sum - 1) * a < leftN M qs.sum qs qs.length * qs.sum := by
      have h4 : (qs.sum - 1) * a ≤ qs.sum * a := Nat.mul_le_mul_right _ (by omega)
      have h5 : (a + 1) * qs.sum ≤ leftN M qs.sum qs qs.length * qs.sum := Nat.mul_le_mul_right _ ha2
      rw [Nat.add_mul, Nat.mul_comm a] at h5
      omega
    rw [Nat.zero_mul] at h2
    omega
  · exact hz
end
theorem split_pos {M : Nat} {qs : List Nat} (h0 : 0 < qs.sum) {i : Nat} (hi : i < qs.length) (h : downN M qs.sum qs i < gt (splitL M qs) i) : 0 < remN M qs.sum qs i := by
  rw [split_at h0 hi] at h
  by_cases ht : tkS M qs i
  · exact tk_rem h0 ht
  · rw [if_neg ht] at h; omega
theorem split_num {M : Nat} {qs : List Nat} (h0 : 0 < qs.sum) {i : Nat} (hi : i < qs.length) : downN M qs.sum qs i ≤ gt (splitL M qs) i ∧ gt (splitL M qs) i ≤ downN M qs.sum qs i + 1 := by
  rw [split_at h0 hi]; split <;> omega
end Go.Ti
namespace Go.Ti
open Go.W (gt gt_of)
section
variable {X : Till} {w : Bool} {a : Nat}
end
section
variable {X : Till} {w : Bool} {a : Nat}
end
end Go.Ti
namespace Go.Ti
open Go.W (gt gt_of)
def sameK (a b : Ent) : Prop := a.ticket = b.ticket ∧ a.kind = b.kind
def RightB (X : Till) (l : List Ent) : Prop := l.Pairwise (fun a b => ¬ sameK a b) ∧ ∀ e, e ∈ l → canOf X e.ticket e.pence e.kind.toNat = true
section
variable {X : Till} {l : List Ent}
end
end Go.Ti
namespace Go.Ti
open Go.W (gt gt_of)
structure FullI (X : Till) (l : List Ent) (i k : Nat) (F : List Ent) : Prop where
  sub : l.Sublist F
  inn : ∀ e, e ∈ F → e ∈ l ∨ ∃ a j : Nat, (a < i ∨ a = i ∧ j < k) ∧ e.ticket = (a : Int) ∧ e.kind = ((j + 1 : Nat) : Int)
  has : ∀ a j : Nat, (a < i ∨ a = i ∧ j < k) → j < 3 → missB X l (j + 1) a = true → bookedB F (a : Int) ((j + 1 : Nat) : Int) = true
  rt : RightB X l → RightB X F
  ok : F.all (entB X) = true
  len : F.length ≤ l.length + 3 * i + k
theorem bits_test (f : Nat → Bool) : ∀ n i, (bitsI f n).testBit i = (decide (i < n) && f i) := by
  intro n
  induction n with
  | zero => intro i; simp [bitsI]
  | succ n ih =>
    intro i
    have hlt := bits_lt f n
    have hlt2 := bits_lt f (n + 1)
    rcases Nat.lt_trichotomy i n with h | h | h
    · unfold bitsI
      by_cases hf : f n = true
      · rw [if_pos hf, Nat.add_comm, Nat.testBit_two_pow_add_gt h, ih, decide_eq_true h, decide_eq_true (show i < n + 1 by omega)]
      · rw [if_neg hf, Nat.add_zero, ih, decide_eq_true h, decide_eq_true (show i < n + 1 by omega)]
    · subst h
      unfold bitsI
      by_cases hf : f i = true
      · rw [if_pos hf, Nat.add_comm, Nat.testBit_two_pow_add_eq, Nat.testBit_lt_two_pow hlt, hf]; simp
      · rw [if_neg hf, Nat.add_zero, Nat.testBit_lt_two_pow hlt]; simp [hf]
    · rw [Nat.testBit_lt_two_pow (Nat.lt_of_lt_of_le hlt2 (Nat.pow_le_pow_right (by omega) (by omega))), decide_eq_false (by omega)]; rfl
end Go.Ti
