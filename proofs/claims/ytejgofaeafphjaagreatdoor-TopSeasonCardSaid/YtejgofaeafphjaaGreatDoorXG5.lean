import Derived.Shelf.Spec.TrailingZeros
import Derived.Shelf.Strconv.ErrVarAll
import Derived.Shelf.Strconv.Itoa0
import Derived.Shelf.Strconv.Itoa3
import Derived.Shelf.Strings.LastIndexAll
import Derived.Shelf.Strings.OnBuilder
import Derived.Shelf.Strings.Repeat
import Derived.Shelf.Strings.Replace
import Derived.Shelf.Strings.Search3
import Derived.Shelf.Strings.Split
import Derived.Shelf.Lays7
import Derived.Shelf.LaysM
import Derived.Shelf.LaysC
import Derived.Test.YtejgofaeafphjaaGreatDoorProg
import Derived.Test.YtejgofaeafphjaaGreatDoorXG4
import Derived.Test.YtejgofaeafphjaaGreatDoorXG0
import Derived.Test.YtejgofaeafphjaaGreatDoorXG3
import Derived.Test.YtejgofaeafphjaaGreatDoorXG1
import Derived.Test.YtejgofaeafphjaaGreatDoorXG2
set_option linter.all false
set_option maxRecDepth 100000
set_option maxHeartbeats 4000000
attribute [local irreducible] Go.W.WL Go.W.WLF Go.W.WC Go.W.WCF Go.W.WP Go.W.WA Go.W.WQ Go.W.WH Go.W.WHo Go.W.WCn Go.W.Yd Go.W.Qt Go.W.SO Go.Code.wp Go.Code.wpIn
namespace Go.Proofs.YtejgofaeafphjaaGreatDoor
open Go.Shelf
def ZK : Go.Shelf.Ren := ⟨fun | 171 => 62 | 243 => 144 | 246 => 217 | 283 => 266 | 284 => 267 | 285 => 268 | 286 => 269 | 129 => 233 | 317 => 291 | 318 => 292 | 319 => 293 | 320 => 294 | 337 => 306 | 338 => 232 | n => n, fun | 3 => 3 | 9 => 9 | 2 => 2 | 4 => 4 | 171 => 351 | 0 => 0 | 53 => 233 | 37 => 188 | 5 => 5 | 173 => 353 | 212 => 386 | 51 => 280 | 20 => 20 | 213 => 387 | 46 => 200 | 232 => 415 | 233 => 361 | n => n, fun | 17 => 7 | 18 => 10 | 19 => 6 | n => n⟩
theorem Jg : Go.Proofs.LaysM.n171 Tryz.prog ZK := {
  mixed := by kernel_rfl
  f129 := Tryz.func233.trans (congrArg some (by kernel_rfl))
  f171 := Tryz.func62.trans (congrArg some (by kernel_rfl))
  f243 := Tryz.func144.trans (congrArg some (by kernel_rfl))
  f246 := Tryz.func217.trans (congrArg some (by kernel_rfl))
  f283 := Tryz.func266.trans (congrArg some (by kernel_rfl))
  f284 := Tryz.func267.trans (congrArg some (by kernel_rfl))
  f285 := Tryz.func268.trans (congrArg some (by kernel_rfl))
  f286 := Tryz.func269.trans (congrArg some (by kernel_rfl))
  f317 := Tryz.func291.trans (congrArg some (by kernel_rfl))
  f318 := Tryz.func292.trans (congrArg some (by kernel_rfl))
  f319 := Tryz.func293.trans (congrArg some (by kernel_rfl))
  f320 := Tryz.func294.trans (congrArg some (by kernel_rfl))
  f337 := Tryz.func306.trans (congrArg some (by kernel_rfl))
  f338 := Tryz.func232.trans (congrArg some (by kernel_rfl))
  t0 := Tryz.underlying0
  a0 := Tryz.isAgg0
  z0 := Tryz.sizeOf0
  v0 := Tryz.zeroValue0
  t2 := Tryz.underlying2
  a2 := Tryz.isAgg2
  z2 := Tryz.sizeOf2
  v2 := Tryz.zeroValue2
  t3 := Tryz.underlying3
  a3 := Tryz.isAgg3
  z3 := Tryz.sizeOf3
  v3 := Tryz.zeroValue3
  t4 := Tryz.underlying4
  a4 := Tryz.isAgg4
  z4 := Tryz.sizeOf4
  v4 := Tryz.zeroValue4
  t5 := Tryz.underlying5
  a5 := Tryz.isAgg5
  z5 := Tryz.sizeOf5
  v5 := Tryz.zeroValue5
  t9 := Tryz.underlying9
  a9 := Tryz.isAgg9
  z9 := Tryz.sizeOf9
  v9 := Tryz.zeroValue9
  t20 := Tryz.underlying20
  a20 := Tryz.isAgg20
  z20 := Tryz.sizeOf20
  v20 := Tryz.zeroValue20
  t37 := Tryz.underlying188
  a37 := Tryz.isAgg188
  z37 := Tryz.sizeOf188
  v37 := Tryz.zeroValue188
  t46 := Tryz.underlying200
  a46 := Tryz.isAgg200
  z46 := Tryz.sizeOf200
  v46 := Tryz.zeroValue200
  t51 := Tryz.underlying280
  a51 := Tryz.isAgg280
  z51 := Tryz.sizeOf280
  v51 := Tryz.zeroValue280
  t53 := Tryz.underlying233
  a53 := Tryz.isAgg233
  z53 := Tryz.sizeOf233
  v53 := Tryz.zeroValue233
  t171 := Tryz.underlying351
  a171 := Tryz.isAgg351
  z171 := Tryz.sizeOf351
  v171 := Tryz.zeroValue351
  t173 := Tryz.underlying353
  a173 := Tryz.isAgg353
  z173 := Tryz.sizeOf353
  v173 := Tryz.zeroValue353
  t212 := Tryz.underlying386
  a212 := Tryz.isAgg386
  z212 := Tryz.sizeOf386
  v212 := Tryz.zeroValue386
  t213 := Tryz.underlying387
  a213 := Tryz.isAgg387
  z213 := Tryz.sizeOf387
  t232 := Tryz.underlying415
  a232 := Tryz.isAgg415
  z232 := Tryz.sizeOf415
  v232 := Tryz.zeroValue415
  t233 := Tryz.underlying361
  a233 := Tryz.isAgg361
  z233 := Tryz.sizeOf361
  v233 := Tryz.zeroValue361
  g17 := by kernel_rfl
  g18 := by kernel_rfl
  g19 := by kernel_rfl
  i0 := by kernel_rfl
  i2 := by kernel_rfl
  i3 := by kernel_rfl
  i4 := by kernel_rfl
  i5 := by kernel_rfl
  i9 := by kernel_rfl
  i20 := by kernel_rfl
  i37 := by kernel_rfl
  i46 := by kernel_rfl
  i51 := by kernel_rfl
  i53 := by kernel_rfl
  i171 := by kernel_rfl
  i173 := by kernel_rfl
  i212 := by kernel_rfl
  i232 := by kernel_rfl
  i233 := by kernel_rfl
  m17 := by kernel_rfl
  m18 := by kernel_rfl
  m19 := by kernel_rfl }
def ZJ : Go.Shelf.Ren := ⟨fun | 172 => 228 | 244 => 274 | 245 => 275 | 247 => 295 | 279 => 296 | 280 => 297 | 281 => 298 | 282 => 299 | 287 => 307 | 316 => 308 | 171 => 62 | 205 => 309 | 321 => 315 | 322 => 316 | 243 => 144 | 246 => 217 | 283 => 266 | 284 => 267 | 285 => 268 | 286 => 269 | 129 => 233 | 317 => 291 | 318 => 292 | 319 => 293 | 320 => 294 | 337 => 306 | 338 => 232 | n => n, fun | 9 => 9 | 3 => 3 | 75 => 193 | 76 => 194 | 4 => 4 | 5 => 5 | 167 => 389 | 37 => 188 | 0 => 0 | 85 => 390 | 2 => 2 | 168 => 392 | 53 => 233 | 175 => 406 | 46 => 200 | 210 => 409 | 127 => 276 | 145 => 419 | 143 => 417 | 21 => 21 | 171 => 351 | 173 => 353 | 212 => 386 | 51 => 280 | 20 => 20 | 213 => 387 | 232 => 415 | 233 => 361 | 80 => 197 | n => n, fun | 15 => 8 | 16 => 9 | 17 => 7 | 18 => 10 | 19 => 6 | n => n⟩
theorem ky : Go.Proofs.LaysC.n172 Tryz.prog ZJ := {
  mixed := by kernel_rfl
  f129 := Tryz.func233.trans (congrArg some (by kernel_rfl))
  f171 := Tryz.func62.trans (congrArg some (by kernel_rfl))
  f172 := Tryz.func228.trans (congrArg some (by kernel_rfl))
  f205 := Tryz.func309.trans (congrArg some (by kernel_rfl))
  f243 := Tryz.func144.trans (congrArg some (by kernel_rfl))
  f244 := Tryz.func274.trans (congrArg some (by kernel_rfl))
  f245 := Tryz.func275.trans (congrArg some (by kernel_rfl))
  f246 := Tryz.func217.trans (congrArg some (by kernel_rfl))
  f247 := Tryz.func295.trans (congrArg some (by kernel_rfl))
  f279 := Tryz.func296.trans (congrArg some (by kernel_rfl))
  f280 := Tryz.func297.trans (congrArg some (by kernel_rfl))
  f281 := Tryz.func298.trans (congrArg some (by kernel_rfl))
  f282 := Tryz.func299.trans (congrArg some (by kernel_rfl))
  f283 := Tryz.func266.trans (congrArg some (by kernel_rfl))
  f284 := Tryz.func267.trans (congrArg some (by kernel_rfl))
  f285 := Tryz.func268.trans (congrArg some (by kernel_rfl))
  f286 := Tryz.func269.trans (congrArg some (by kernel_rfl))
  f287 := Tryz.func307.trans (congrArg some (by kernel_rfl))
  f316 := Tryz.func308.trans (congrArg some (by kernel_rfl))
  f317 := Tryz.func291.trans (congrArg some (by kernel_rfl))
  f318 := Tryz.func292.trans (congrArg some (by kernel_rfl))
  f319 := Tryz.func293.trans (congrArg some (by kernel_rfl))
  f320 := Tryz.func294.trans (congrArg some (by kernel_rfl))
  f321 := Tryz.func315.trans (congrArg some (by kernel_rfl))
  f322 := Tryz.func316.trans (congrArg some (by kernel_rfl))
  f337 := Tryz.func306.trans (congrArg some (by kernel_rfl))
  f338 := Tryz.func232.trans (congrArg some (by kernel_rfl))
  t0 := Tryz.underlying0
  a0 := Tryz.isAgg0
  z0 := Tryz.sizeOf0
  v0 := Tryz.zeroValue0
  t2 := Tryz.underlying2
  a2 := Tryz.isAgg2
  z2 := Tryz.sizeOf2
  v2 := Tryz.zeroValue2
  t3 := Tryz.underlying3
  a3 := Tryz.isAgg3
  z3 := Tryz.sizeOf3
  v3 := Tryz.zeroValue3
  t4 := Tryz.underlying4
  a4 := Tryz.isAgg4
  z4 := Tryz.sizeOf4
  v4 := Tryz.zeroValue4
  t5 := Tryz.underlying5
  a5 := Tryz.isAgg5
  z5 := Tryz.sizeOf5
  v5 := Tryz.zeroValue5
  t9 := Tryz.underlying9
  a9 := Tryz.isAgg9
  z9 := Tryz.sizeOf9
  v9 := Tryz.zeroValue9
  t20 := Tryz.underlying20
  a20 := Tryz.isAgg20
  z20 := Tryz.sizeOf20
  v20 := Tryz.zeroValue20
  t21 := Tryz.underlying21
  a21 := Tryz.isAgg21
  z21 := Tryz.sizeOf21
  v21 := Tryz.zeroValue21
  t37 := Tryz.underlying188
  a37 := Tryz.isAgg188
  z37 := Tryz.sizeOf188
  v37 := Tryz.zeroValue188
  t46 := Tryz.underlying200
  a46 := Tryz.isAgg200
  z46 := Tryz.sizeOf200
  v46 := Tryz.zeroValue200
  t51 := Tryz.underlying280
  a51 := Tryz.isAgg280
  z51 := Tryz.sizeOf280
  v51 := Tryz.zeroValue280
  t53 := Tryz.underlying233
  a53 := Tryz.isAgg233
  z53 := Tryz.sizeOf233
  v53 := Tryz.zeroValue233
  t75 := Tryz.underlying193
  a75 := Tryz.isAgg193
  z75 := Tryz.sizeOf193
  v75 := Tryz.zeroValue193
  t76 := Tryz.underlying194
  a76 := Tryz.isAgg194
  z76 := Tryz.sizeOf194
  v76 := Tryz.zeroValue194
  t85 := Tryz.underlying390
  a85 := Tryz.isAgg390
  z85 := Tryz.sizeOf390
  v85 := Tryz.zeroValue390
  t127 := Tryz.underlying276
  a127 := Tryz.isAgg276
  z127 := Tryz.sizeOf276
  v127 := Tryz.zeroValue276
  t143 := Tryz.underlying417
  a143 := Tryz.isAgg417
  z143 := Tryz.sizeOf417
  v143 := Tryz.zeroValue417
  t145 := Tryz.underlying419
  a145 := Tryz.isAgg419
  z145 := Tryz.sizeOf419
  v145 := Tryz.zeroValue419
  t167 := Tryz.underlying389
  a167 := Tryz.isAgg389
  z167 := Tryz.sizeOf389
  v167 := Tryz.zeroValue389
  t168 := Tryz.underlying392
  a168 := Tryz.isAgg392
  z168 := Tryz.sizeOf392
  v168 := Tryz.zeroValue392
  t171 := Tryz.underlying351
  a171 := Tryz.isAgg351
  z171 := Tryz.sizeOf351
  v171 := Tryz.zeroValue351
  t173 := Tryz.underlying353
  a173 := Tryz.isAgg353
  z173 := Tryz.sizeOf353
  v173 := Tryz.zeroValue353
  t175 := Tryz.underlying406
  a175 := Tryz.isAgg406
  z175 := Tryz.sizeOf406
  v175 := Tryz.zeroValue406
  t210 := Tryz.underlying409
  a210 := Tryz.isAgg409
  z210 := Tryz.sizeOf409
  v210 := Tryz.zeroValue409
  t212 := Tryz.underlying386
  a212 := Tryz.isAgg386
  z212 := Tryz.sizeOf386
  v212 := Tryz.zeroValue386
  t213 := Tryz.underlying387
  a213 := Tryz.isAgg387
  z213 := Tryz.sizeOf387
  t232 := Tryz.underlying415
  a232 := Tryz.isAgg415
  z232 := Tryz.sizeOf415
  v232 := Tryz.zeroValue415
  t233 := Tryz.underlying361
  a233 := Tryz.isAgg361
  z233 := Tryz.sizeOf361
  v233 := Tryz.zeroValue361
  g15 := by kernel_rfl
  g16 := by kernel_rfl
  g17 := by kernel_rfl
  g18 := by kernel_rfl
  g19 := by kernel_rfl
  t80 := Tryz.underlying197
  a80 := Tryz.isAgg197
  z80 := Tryz.sizeOf197
  v80 := Tryz.zeroValue197
  i0 := by kernel_rfl
  i2 := by kernel_rfl
  i3 := by kernel_rfl
  i4 := by kernel_rfl
  i5 := by kernel_rfl
  i9 := by kernel_rfl
  i20 := by kernel_rfl
  i21 := by kernel_rfl
  i37 := by kernel_rfl
  i46 := by kernel_rfl
  i51 := by kernel_rfl
  i53 := by kernel_rfl
  i75 := by kernel_rfl
  i76 := by kernel_rfl
  i80 := by kernel_rfl
  i85 := by kernel_rfl
  i127 := by kernel_rfl
  i143 := by kernel_rfl
  i145 := by kernel_rfl
  i167 := by kernel_rfl
  i168 := by kernel_rfl
  i171 := by kernel_rfl
  i173 := by kernel_rfl
  i175 := by kernel_rfl
  i210 := by kernel_rfl
  i212 := by kernel_rfl
  i232 := by kernel_rfl
  i233 := by kernel_rfl
  m15 := by kernel_rfl
  m16 := by kernel_rfl
  m17 := by kernel_rfl
  m18 := by kernel_rfl
  m19 := by kernel_rfl
  c0 := by kernel_rfl
  c2 := by kernel_rfl
  c3 := by kernel_rfl
  c4 := by kernel_rfl
  c5 := by kernel_rfl
  c9 := by kernel_rfl
  c20 := by kernel_rfl
  c21 := by kernel_rfl
  c37 := by kernel_rfl
  c46 := by kernel_rfl
  c51 := by kernel_rfl
  c53 := by kernel_rfl
  c75 := by kernel_rfl
  c76 := by kernel_rfl
  c80 := by kernel_rfl
  c85 := by kernel_rfl
  c127 := by kernel_rfl
  c143 := by kernel_rfl
  c145 := by kernel_rfl
  c167 := by kernel_rfl
  c168 := by kernel_rfl
  c171 := by kernel_rfl
  c173 := by kernel_rfl
  c175 := by kernel_rfl
  c210 := by kernel_rfl
  c212 := by kernel_rfl
  c213 := by kernel_rfl
  c232 := by kernel_rfl
  c233 := by kernel_rfl }
def YG : Go.Shelf.Ren := ⟨fun | 146 => 72 | 221 => 150 | 268 => 221 | 138 => 137 | 143 => 136 | 195 => 207 | 197 => 138 | 218 => 208 | 219 => 206 | 260 => 209 | 217 => 261 | 225 => 262 | 224 => 263 | 267 => 264 | 266 => 289 | 314 => 290 | n => n, fun | 9 => 9 | 31 => 37 | 3 => 3 | 4 => 4 | 0 => 0 | 105 => 203 | 21 => 21 | 5 => 5 | 46 => 200 | 119 => 346 | 139 => 349 | 138 => 348 | 146 => 281 | 51 => 280 | n => n, fun | 1 => 1 | 3 => 4 | 4 => 5 | n => n⟩
theorem zay : Go.Proofs.Lays.n146 Tryz.prog YG := {
  mixed := by kernel_rfl
  f138 := Tryz.func137.trans (congrArg some (by kernel_rfl))
  f143 := Tryz.func136.trans (congrArg some (by kernel_rfl))
  f146 := Tryz.func72.trans (congrArg some (by kernel_rfl))
  f195 := Tryz.func207.trans (congrArg some (by kernel_rfl))
  f197 := Tryz.func138.trans (congrArg some (by kernel_rfl))
  f217 := Tryz.func261.trans (congrArg some (by kernel_rfl))
  f218 := Tryz.func208.trans (congrArg some (by kernel_rfl))
  f219 := Tryz.func206.trans (congrArg some (by kernel_rfl))
  f221 := Tryz.func150.trans (congrArg some (by kernel_rfl))
  f224 := Tryz.func263.trans (congrArg some (by kernel_rfl))
  f225 := Tryz.func262.trans (congrArg some (by kernel_rfl))
  f260 := Tryz.func209.trans (congrArg some (by kernel_rfl))
  f266 := Tryz.func289.trans (congrArg some (by kernel_rfl))
  f267 := Tryz.func264.trans (congrArg some (by kernel_rfl))
  f268 := Tryz.func221.trans (congrArg some (by kernel_rfl))
  f314 := Tryz.func290.trans (congrArg some (by kernel_rfl))
  t0 := Tryz.underlying0
  a0 := Tryz.isAgg0
  z0 := Tryz.sizeOf0
  v0 := Tryz.zeroValue0
  t3 := Tryz.underlying3
  a3 := Tryz.isAgg3
  z3 := Tryz.sizeOf3
  v3 := Tryz.zeroValue3
  t4 := Tryz.underlying4
  a4 := Tryz.isAgg4
  z4 := Tryz.sizeOf4
  v4 := Tryz.zeroValue4
  t5 := Tryz.underlying5
  a5 := Tryz.isAgg5
  z5 := Tryz.sizeOf5
  v5 := Tryz.zeroValue5
  t9 := Tryz.underlying9
  a9 := Tryz.isAgg9
  z9 := Tryz.sizeOf9
  v9 := Tryz.zeroValue9
  t21 := Tryz.underlying21
  a21 := Tryz.isAgg21
  z21 := Tryz.sizeOf21
  v21 := Tryz.zeroValue21
  t31 := Tryz.underlying37
  a31 := Tryz.isAgg37
  z31 := Tryz.sizeOf37
  v31 := Tryz.zeroValue37
  t46 := Tryz.underlying200
  a46 := Tryz.isAgg200
  z46 := Tryz.sizeOf200
  v46 := Tryz.zeroValue200
  t51 := Tryz.underlying280
  a51 := Tryz.isAgg280
  z51 := Tryz.sizeOf280
  v51 := Tryz.zeroValue280
  t105 := Tryz.underlying203
  a105 := Tryz.isAgg203
  z105 := Tryz.sizeOf203
  v105 := Tryz.zeroValue203
  t119 := Tryz.underlying346
  a119 := Tryz.isAgg346
  z119 := Tryz.sizeOf346
  t138 := Tryz.underlying348
  a138 := Tryz.isAgg348
  z138 := Tryz.sizeOf348
  v138 := Tryz.zeroValue348
  t139 := Tryz.underlying349
  a139 := Tryz.isAgg349
  z139 := Tryz.sizeOf349
  v139 := Tryz.zeroValue349
  t146 := Tryz.underlying281
  a146 := Tryz.isAgg281
  z146 := Tryz.sizeOf281
  v146 := Tryz.zeroValue281
  g1 := by kernel_rfl
  g3 := by kernel_rfl
  g4 := by kernel_rfl }
def qP : Go.Shelf.Ren := ⟨fun | 156 => 272 | 165 => 127 | 166 => 128 | 169 => 130 | 240 => 197 | 241 => 198 | 276 => 257 | 277 => 258 | n => n, fun | 31 => 37 | 9 => 9 | 3 => 3 | 4 => 4 | 0 => 0 | 20 => 20 | 72 => 190 | 76 => 194 | 70 => 187 | 37 => 188 | 75 => 193 | 127 => 276 | 164 => 339 | 5 => 5 | 80 => 197 | n => n, fun | n => n⟩
theorem U5 : Go.Proofs.Lays.n156 Tryz.prog qP := {
  mixed := by kernel_rfl
  f156 := Tryz.func272.trans (congrArg some (by kernel_rfl))
  f165 := Tryz.func127.trans (congrArg some (by kernel_rfl))
  f166 := Tryz.func128.trans (congrArg some (by kernel_rfl))
  f169 := Tryz.func130.trans (congrArg some (by kernel_rfl))
  f240 := Tryz.func197.trans (congrArg some (by kernel_rfl))
  f241 := Tryz.func198.trans (congrArg some (by kernel_rfl))
  f276 := Tryz.func257.trans (congrArg some (by kernel_rfl))
  f277 := Tryz.func258.trans (congrArg some (by kernel_rfl))
  t0 := Tryz.underlying0
  a0 := Tryz.isAgg0
  z0 := Tryz.sizeOf0
  v0 := Tryz.zeroValue0
  t3 := Tryz.underlying3
  a3 := Tryz.isAgg3
  z3 := Tryz.sizeOf3
  v3 := Tryz.zeroValue3
  t4 := Tryz.underlying4
  a4 := Tryz.isAgg4
  z4 := Tryz.sizeOf4
  v4 := Tryz.zeroValue4
  t9 := Tryz.underlying9
  a9 := Tryz.isAgg9
  z9 := Tryz.sizeOf9
  v9 := Tryz.zeroValue9
  t20 := Tryz.underlying20
  a20 := Tryz.isAgg20
  z20 := Tryz.sizeOf20
  v20 := Tryz.zeroValue20
  t31 := Tryz.underlying37
  a31 := Tryz.isAgg37
  z31 := Tryz.sizeOf37
  v31 := Tryz.zeroValue37
  t37 := Tryz.underlying188
  a37 := Tryz.isAgg188
  z37 := Tryz.sizeOf188
  v37 := Tryz.zeroValue188
  t70 := Tryz.underlying187
  a70 := Tryz.isAgg187
  z70 := Tryz.sizeOf187
  v70 := Tryz.zeroValue187
  t72 := Tryz.underlying190
  a72 := Tryz.isAgg190
  z72 := Tryz.sizeOf190
  v72 := Tryz.zeroValue190
  t75 := Tryz.underlying193
  a75 := Tryz.isAgg193
  z75 := Tryz.sizeOf193
  v75 := Tryz.zeroValue193
  t76 := Tryz.underlying194
  a76 := Tryz.isAgg194
  z76 := Tryz.sizeOf194
  v76 := Tryz.zeroValue194
  t127 := Tryz.underlying276
  a127 := Tryz.isAgg276
  z127 := Tryz.sizeOf276
  v127 := Tryz.zeroValue276
  t164 := Tryz.underlying339
  a164 := Tryz.isAgg339
  z164 := Tryz.sizeOf339
  v164 := Tryz.zeroValue339 }
def YF : Go.Shelf.Ren := ⟨fun | 129 => 233 | n => n, fun | 53 => 233 | 3 => 3 | 4 => 4 | 46 => 200 | 5 => 5 | 9 => 9 | n => n, fun | n => n⟩
theorem zax : Go.Proofs.Lays.n129 Tryz.prog YF := {
  mixed := by kernel_rfl
  f129 := Tryz.func233.trans (congrArg some (by kernel_rfl))
  t3 := Tryz.underlying3
  a3 := Tryz.isAgg3
  z3 := Tryz.sizeOf3
  v3 := Tryz.zeroValue3
  t4 := Tryz.underlying4
  a4 := Tryz.isAgg4
  z4 := Tryz.sizeOf4
  v4 := Tryz.zeroValue4
  t5 := Tryz.underlying5
  a5 := Tryz.isAgg5
  z5 := Tryz.sizeOf5
  v5 := Tryz.zeroValue5
  t9 := Tryz.underlying9
  a9 := Tryz.isAgg9
  z9 := Tryz.sizeOf9
  v9 := Tryz.zeroValue9
  t46 := Tryz.underlying200
  a46 := Tryz.isAgg200
  z46 := Tryz.sizeOf200
  v46 := Tryz.zeroValue200
  t53 := Tryz.underlying233
  a53 := Tryz.isAgg233
  z53 := Tryz.sizeOf233
  v53 := Tryz.zeroValue233 }
def YH : Go.Shelf.Ren := ⟨fun | 29 => 232 | n => n, fun | 22 => 233 | 3 => 3 | 4 => 4 | 25 => 200 | 54 => 361 | 0 => 0 | 5 => 5 | n => n, fun | 1 => 6 | n => n⟩
theorem zaz : Go.Proofs.Lays7.n29 Tryz.prog YH := {
  mixed := by kernel_rfl
  f29 := Tryz.func232.trans (congrArg some (by kernel_rfl))
  t0 := Tryz.underlying0
  a0 := Tryz.isAgg0
  z0 := Tryz.sizeOf0
  v0 := Tryz.zeroValue0
  i0 := by kernel_rfl
  t3 := Tryz.underlying3
  a3 := Tryz.isAgg3
  z3 := Tryz.sizeOf3
  v3 := Tryz.zeroValue3
  i3 := by kernel_rfl
  t4 := Tryz.underlying4
  a4 := Tryz.isAgg4
  z4 := Tryz.sizeOf4
  v4 := Tryz.zeroValue4
  i4 := by kernel_rfl
  t5 := Tryz.underlying5
  a5 := Tryz.isAgg5
  z5 := Tryz.sizeOf5
  v5 := Tryz.zeroValue5
  i5 := by kernel_rfl
  t22 := Tryz.underlying233
  a22 := Tryz.isAgg233
  z22 := Tryz.sizeOf233
  v22 := Tryz.zeroValue233
  i22 := by kernel_rfl
  t25 := Tryz.underlying200
  a25 := Tryz.isAgg200
  z25 := Tryz.sizeOf200
  v25 := Tryz.zeroValue200
  i25 := by kernel_rfl
  t54 := Tryz.underlying361
  a54 := Tryz.isAgg361
  z54 := Tryz.sizeOf361
  g1 := by kernel_rfl }
end Go.Proofs.YtejgofaeafphjaaGreatDoor
namespace Go.Proofs.YtejgofaeafphjaaGreatDoor
open Go.W Go.Ti
theorem zdj {P : Program} {name : String} {w : World} {n : Nat} {cs : Array Value} {t : TypeId} {fz : Nat × Nat} (hg : P.globalNamed name = some n) (h : w.heap[n]? = some (.cells cs t fz)) : w.var? P name = some cs := by
  unfold World.var?;rw [hg];simp [h]
def tabV : List Value := Lib.deBruijn64tab.map fun (n : Nat) => Value.int .u8 (n : Int)
structure LibW (D : Imm) : Prop where
  done : ux D
  ents : ∃ t fz, D 0 = some (.cells (List.toArray [st [], st payS, st xw, st xE]) t fz)
  maxLen : ∃ (m : Int) (r : List Value) (t : TypeId) (fz : Nat × Nat), D 1 = some (.cells (List.toArray (it m :: r)) t fz)
  syn : ∃ (tp : TypeId) (p : Value) (t : TypeId) (fz : Nat × Nat), D 8 = some (.cells (List.toArray [.iface tp p]) t fz)
  rng : ∃ (tp : TypeId) (p : Value) (t : TypeId) (fz : Nat × Nat), D 9 = some (.cells (List.toArray [.iface tp p]) t fz)
  pow : ∃ t fz, D 7 = some (.cells (Lib.pow10Tab.map fun z => Value.int .u64 z).toArray t fz)
  tab : ∃ t fz, D 6 = some (.cells (List.toArray tabV) t fz)
theorem LibW.ext {w : World} {D D' : Imm} (hD : DExt w D D') (h : LibW D) : LibW D' :=
  ⟨h.done.ext hD, let ⟨t, fz, e⟩ := h.ents; ⟨t, fz, hD.old _ _ e⟩, let ⟨m, r, t, fz, e⟩ := h.maxLen; ⟨m, r, t, fz, hD.old _ _ e⟩, let ⟨a, b, t, fz, e⟩ := h.syn; ⟨a, b, t, fz, hD.old _ _ e⟩, let ⟨a, b, t, fz, e⟩ := h.rng; ⟨a, b, t, fz, hD.old _ _ e⟩, let ⟨t, fz, e⟩ := h.pow; ⟨t, fz, hD.old _ _ e⟩, let ⟨t, fz, e⟩ := h.tab; ⟨t, fz, hD.old _ _ e⟩⟩
theorem LibW.max {D : Imm} (h : LibW D) {w : World} (hH : Holds D w) : ∃ m : Int, w.cell? ⟨1, 0, none⟩ = some (.int .i64 m) := by
  obtain ⟨m, r, t, fz, e⟩ := h.maxLen;exact ⟨m, by have := hH _ _ e; simp [World.cell?, this]⟩
theorem cell0 {D : Imm} {g : Nat} {v : Value} {r : List Value} {t : TypeId} {fz : Nat × Nat} (e : D g = some (.cells (List.toArray (v :: r)) t fz)) {w : World} (hH : Holds D w) : w.cell? ⟨g, 0, none⟩ = some v := by
  have := hH _ _ e;simp [World.cell?, this]
theorem tz_g (x : Nat) (hx : x < 2 ^ 61) (D : Imm) (hL : LibW D) (w : World) (hH : Holds D w) : z8 Tryz.prog 232 [ut x] w (nt (Lib.ctz 64 x)) := by
  obtain ⟨t, fz, e⟩ := hL.tab;refine (Any7.bits_TrailingZeros64 zaz x (Nat.lt_trans hx (by decide)) w (fun _ j hj => ?_)).mono fun e' w' ⟨h1, h2⟩ => ⟨h1, h2 ▸ Keep.refl _ _⟩;have := hH _ _ e
  show w.cell? ⟨6, j, none⟩ = _;simp [World.cell?, this, tabV, hj]
theorem zaA (x : Nat) (hx : x < 2 ^ 61) (w : World) : z8 Tryz.prog 233 [ut x] w (nt (Lib.bitLen x)) := by
  refine (Any.bits_Len64 zax (x : Int) w (by omega) (by omega)).mono fun e' w' ⟨h1, h2⟩ => ⟨by simpa using h1, h2 ▸ Keep.refl _ _⟩
def i64B (n : Int) : Prop := -9223372036854775808 ≤ n ∧ n ≤ 9223372036854775807
theorem Xw (n : Int) (hn : i64B n) (D : Imm) (hL : LibW D) (w : World) (hH : Holds D w) : z8 Tryz.prog 62 [it n] w (st (Lib.itoa n)) := by
  obtain ⟨t, fz, e⟩ := hL.pow;exact (Any.strconv_Itoa Jg n hn.1 hn.2 w (zdj zk (hH _ _ e))).mono fun e' w' ⟨h1, k, os, h2⟩ => ⟨h1, h2 ▸ Keep.grow w k os⟩
theorem za0 (s : Bs) (hs : s.length ≤ 2 ^ 40) (v : Int) (h : Lib.atoiAll s = .ok v) (w : World) : z8 Tryz.prog 228 [st s] w (.tuple #[it v, .nilIface]) :=
  (Any.strconv_Atoi_ok ky ⟨s.toArray⟩ (by rw [wk]; omega) v h w).mono fun e' w' ⟨h1, h2⟩ => ⟨h1, by
    rcases h2 with rfl | ⟨t, rfl⟩
    · exact Keep.refl _ _
    exact Keep.of_below (Lib.bytesWorld_below w _ _)⟩
theorem KZ (s : Bs) (hs : s.length ≤ 2 ^ 40) (h : ∀ v, Lib.atoiAll s ≠ .ok v) (D : Imm) (hL : LibW D) (w : World) (hH : Holds D w) : News Tryz.prog 228 [st s] w D (fun v _ h' => h' = [] ∧ ∃ z tt p, v = .tuple #[it z, .iface tt p]) := by
  have fin : ∀ {w' : World}, RowKit.Below w.heap.size w w' → Inv D [] [] w w' := fun hb => (Inv.start hH).call (Keep.of_below hb);rcases e : Lib.atoiAll s with v | _ | _
  · exact absurd e (h v)
  · obtain ⟨tp, p, t, fz, e2⟩ := hL.syn;exact (Any.strconv_Atoi_syntax ky ⟨s.toArray⟩ (by rw [wk]; omega) e (.iface tp p) w (cell0 e2 hH) (.inr ⟨_, _, rfl⟩)).mono fun e' w' ⟨N, h1, _, _, h4⟩ => ⟨_, D, [], h1, DExt.refl _ _, fin h4, rfl, _, _, _, rfl⟩
  obtain ⟨tp, p, t, fz, e2⟩ := hL.rng;exact (Any.strconv_Atoi_range ky ⟨s.toArray⟩ (by rw [wk]; omega) e (.iface tp p) w (cell0 e2 hH) (.inr ⟨_, _, rfl⟩)).mono fun e' w' ⟨N, h1, _, _, h4⟩ => ⟨_, D, [], h1, DExt.refl _ _, fin h4, rfl, _, _, _, rfl⟩
theorem zdp : Builder.Extra Tryz.prog qP := ⟨⟨by kernel_rfl, by kernel_rfl⟩, Tryz.underlying5, Tryz.isAgg5, Tryz.sizeOf5, Tryz.zeroValue5, by kernel_rfl, by kernel_rfl, by kernel_rfl, by decide⟩
theorem Kt (l : List Bs) (a : Option Addr) (n c : Nat) (D : Imm) (hS : SlL D 1 (l.map fun p => [st p]) a n) (hn : n ≤ 1000) (hc : n ≤ c) (hlen : (Lib.join l [32]).length ≤ 100000) (w : World) (hH : Holds D w) : z8 Tryz.prog 272 [.slice a n c, st [32]] w (st (Lib.join l [32])) := by
  obtain rfl := hS.len';have hm : ((l.map fun p => (⟨p.toArray⟩ : ByteArray)).map (·.data.toList)) = l := by rw [List.map_map]; exact List.map_id'' (fun _ => rfl) l
  cases l with
  | nil =>
    refine (Any.strings_Join_none U5 zdp a c ⟨List.toArray [32]⟩ w).mono fun e' w' ⟨h1, h2⟩ => ⟨h1, h2 ▸ Keep.refl _ _⟩
  | cons x l =>
    have ha := hS.addr 0 (by simp);rw [ha]
    have hcell : ∀ (j : Nat) y, ((x :: l).map fun p => (⟨p.toArray⟩ : ByteArray))[j]? = some y → w.cell? ⟨sb a, so a + j, none⟩ = some (.string y) := fun j y hj => by
      have hjl : j < (x :: l).length := by
        rcases Nat.lt_or_ge j (x :: l).length with h | h
        · exact h
        rw [List.getElem?_eq_none (by rw [List.length_map]; exact h)] at hj; cases hj
      have hr := (hS.at (f := fun p => [st p]) j hjl).rd (hp := []) 0 rfl [] w w (Inv.start hH);rw [Nat.mul_one, Nat.add_zero] at hr;rw [hr];rw [List.getElem?_map, wX hjl] at hj;cases hj; rfl
    have hbk : sb a < w.heap.size := by
      have := hcell 0 ⟨x.toArray⟩ rfl;unfold World.cell? at this;rcases Nat.lt_or_ge (sb a) w.heap.size with h | h
      · exact h
      simp [Array.getElem?_eq_none h] at this
    have hl2 : (Lib.join (((x :: l).map fun p => (⟨p.toArray⟩ : ByteArray)).map (·.data.toList)) (⟨List.toArray [32]⟩ : ByteArray).data.toList).length ≤ 140737488355328 := by rw [hm]; exact Nat.le_trans hlen (by decide)
    have := Any.strings_Join U5 zdp (sb a) (so a) c ((x :: l).map fun p => (⟨p.toArray⟩ : ByteArray)) ⟨List.toArray [32]⟩ w hcell hbk (by rw [List.length_map]; omega) (by rw [List.length_map]; exact hc) hl2;rw [List.length_map, hm] at this;exact this.mono fun e' w' ⟨h1, h2⟩ => ⟨h1, Keep.of_below h2⟩
theorem KC (T : Tide) (h : Hts) {j : Nat} (hj : j < 4) : (tdC T h)[0 + 4 + j * 1]? = some (if j < T.sand.length then ut (setU T h j) else ut 0) := by
  rcases (show j = 0 ∨ j = 1 ∨ j = 2 ∨ j = 3 by omega) with rfl | rfl | rfl | rfl <;> rfl
theorem zdd {T : Tide} (hT : zG T) {h : Hts} (hh : h ∈ tdL T) : HtB h := fun i => by
  have h1 := (qZ.1 hh).1;rcases Nat.lt_or_ge i T.marks.length with hi | hi
  · exact h1.high hT i hi
  rw [h1.rest i hi]; omega
section
variable (T : Tide)
include T
theorem zck (hT : zG T) (h : Hts) (p : Nat) (hp : p < T.sand.length) (hne : setL T h p ≠ []) (D : Imm) (hL : LibW D) (w : World) (hH : Holds D w) : z8 Tryz.prog 169 [ut (setU T h p)] w (.tuple #[it (uZ (setL T h p)), it (u7 (setL T h p))]) := by
  unfold z8;obtain ⟨he1, he2, he3, he4⟩ := UK hT hp hne;refine en Tryz.func169 rfl Tryz.ntmps169 (Inv.start hH) (g [[1],[6,0],[2,3,2,0]] ?_);refine WL.cl rfl (fun w hI => tz_g _ he1 D hL _ hI.imm) (g [[1]] ?_);refine WL.cl rfl (fun w hI => zaA _ he1 _) ?_;have hb64 : Lib.bitLen (setU T h p) ≤ 64 := Lib.bitLen_le _ 64 (by omega) (Nat.lt_trans he1 (by decide));refine g [[6]] ?_;refine WP.ret2 rfl rfl rfl (RV.tmp rfl) (RV.tmp rfl) (fun w hI => ⟨congrArg Ending.returned (by rw [← he3, ← he4]), hI.keep⟩)
section
variable (a1 a2 a3 : Option Addr) (n1 n2 n3 c1 c2 c3 : Nat) (D : Imm) (w : World) (hR : yo D T a1 n1 a2 n2 a3 n3)
include a1 a2 a3 n1 n2 n3 c1 c2 c3 D w hR
section
variable (qb mb : Nat) (hq : D qb = some (shoO (.slice a1 n1 c1) (.slice a2 n2 c2) (.slice a3 n3 c3) mb)) (hH : Holds D w) (hT : zG T) (hL : LibW D) (p : Nat) (hp : p < T.sand.length) (m : Int) (hm : zx T m = true)
include qb mb hq hH hT hL p hp m hm
theorem QN (bs bm bp : Nat) (h1 : D bs = some (.cells (List.toArray [pt qb]) 134 (0, 0))) (h2 : D bm = some (.cells (List.toArray [it m]) 3 (0, 0))) (h3 : D bp = some (.cells (List.toArray [nt p]) 3 (0, 0))) : CloD T mb D (tdL T) 167 [pt bs, pt bm, pt bp] (Zp T p m) := by
  obtain rfl := hR.mark.len';obtain rfl := hR.sand.len';obtain rfl := hR.look.len';obtain ⟨hl1, hl2, hl3⟩ := hR.len;refine ⟨CaF.h, fun h hhL w hM hMM hI0 => ?_⟩;obtain ⟨es, clock, F, rfl, hMR, hFK⟩ := hMM;have hh := zdd hT hhL;have hne := (qZ.1 hhL).2 p hp;have hsn := uO hT (h := h) (fun i _ => hh i) hm;obtain ⟨ge1, ge2, _⟩ := kS hne;have gn1 := kT hT hp ge1;have gn2 := kT hT hp ge2;have hns := hT.ns;have hcell : (tdC T h)[0 + 4 + (p : Int).toNat * 1]? = some (ut (setU T h p)) := by rw [Int.toNat_natCast, KC T h (by omega), if_pos hp]
  unfold zp;refine en Tryz.func167 rfl Tryz.ntmps167 hI0 (g [[1],[1,0,1,2,3]] ?_);refine WL.so (SO.box rfl rfl) rfl (zw fun b4 hb4 => ?_);refine g [[5],[5,6,5,4,1,2,3]] ?_;refine WL.know 12 (htV h) rfl rfl (WL.so (SO.altersN (own := [_]) (hpc := [(mb, .map es clock)]) (S1 := [mb]) (fun _ h => h) (fun h => h) (fun _ h => h) (fun _ h => h) (Enters.func CaF.h rfl) (fun w1 hI => qx T a1 a2 a3 _ _ _ c1 c2 c3 D w1 hR qb mb hq hI.imm hT hL.done h m hh hm es clock F hMR hFK hI)) rfl ?_);rintro _ _ _ ⟨hp3, _, ⟨rfl, rfl, hMM2⟩, rfl⟩;refine g [[4],[3,7,6,5,4,3]] ?_;refine WL.yd (Yd.indexA UnF.h SzF.h rfl rfl (by omega) (by omega)) rfl (WL.yd (Yd.l1 rfl (Rd.own (k := 0) rfl hcell)) rfl ?_);refine WL.cl rfl (fun w hI => zck T hT h p hp hne _ hL _ hI.imm) (g [[8],[4,9,8,7,6,5]] ?_);refine WL.yd (Yd.max2 rfl rfl) rfl (g [[3]] ?_);refine WL.yd (Yd.max2 rfl rfl) rfl (g [[5]] ?_);refine WP.ret2 rfl rfl rfl (RV.tmp rfl) (RV.tmp rfl) (fun w1 hI => ⟨_, _, _, rfl, DExt.refl _ _, hI.drop 1, rfl, rfl, hMM2⟩)
theorem Vx (al : Option Addr) (cl : Nat) (hS : SlL D 8 ((tdL T).map (tdC T)) al (tdL T).length) (hM : Hp) (hMM : MapK T mb hM) (hI0 : Inv D hM [mb] w w) : zp Tryz.prog 84 [pt qb, .slice al (tdL T).length cl, nt p, it m] w D [mb] (fun v D' hp' => v = .agg #[it (xY T p m).lo, it (xY T p m).hi] ∧ MapK T mb hp') := by
  unfold zp;obtain rfl := hR.mark.len';obtain rfl := hR.sand.len';obtain rfl := hR.look.len';obtain ⟨hl1, hl2, hl3⟩ := hR.len;obtain ⟨es, clock, F, rfl, hMR, hFK⟩ := hMM;refine en Tryz.func84 rfl Tryz.ntmps84 hI0 (g [[1],[1,0,1,2,3]] ?_);refine WL.so (SO.box rfl rfl) rfl (zw fun b4 hb4 => ?_);refine WL.so (SO.box rfl rfl) rfl (zw fun b6 hb6 => ?_);refine WL.so (SO.box rfl rfl) rfl (zw fun b7 hb7 => ?_);refine WL.so (SO.alloc ZvF.h rfl) rfl (zw fun b8 hb8 => ?_);refine g [[3]] ?_;refine WC.freezeN 1 b7 (.cells (List.toArray [it m]) 3 (0, 0)) rfl rfl hb7 (fun D1 hX1 h7 => ?_);replace hR := hR.ext hX1;replace hq := hX1.old _ _ hq;replace hL := hL.ext hX1;replace hS := hS.ext hX1;refine WC.freezeN 1 b6 (.cells (List.toArray [nt p]) 3 (0, 0)) rfl rfl hb6 (fun D2 hX2 h6 => ?_);replace hR := hR.ext hX2;replace hq := hX2.old _ _ hq;replace hL := hL.ext hX2;replace hS := hS.ext hX2;replace h7 := hX2.old _ _ h7;refine WC.freezeN 1 b4 (.cells (List.toArray [pt qb]) 134 (0, 0)) rfl rfl hb4 (fun D3 hX3 h4 => ?_);replace hR := hR.ext hX3;replace hq := hX3.old _ _ hq;replace hL := hL.ext hX3;replace hS := hS.ext hX3;replace h7 := hX3.old _ _ h7;replace h6 := hX3.old _ _ h6;have hX := (hX1.trans hX2 (Nat.le_refl _)).trans hX3 (Nat.le_refl _);refine g [[3,8,7,6,4,1]] ?_;refine WL.so (SO.altersN (own := [_]) (hpc := [(mb, .map es clock)]) (S1 := [mb]) (fun _ h => h) (fun h => h) (fun _ h => h) (fun _ h => h) (Enters.func CaF.h rfl) (fun w1 hI => zbe T mb (tdL T) 167 [pt b4, pt b7, pt b6] (Zp T p m) D3 (QN T a1 a2 a3 _ _ _ c1 c2 c3 D3 w1 hR qb mb hq hI.imm hT hL p hp m hm b4 b7 b6 h4 h7 h6) al _ cl hS (by have := Q0 hT; omega) [(mb, .map es clock)] ⟨es, clock, F, rfl, hMR, hFK⟩ w1 hI)) rfl ?_;rintro _ _ _ ⟨hp3, _, ⟨rfl, rfl, hMM2⟩, rfl⟩;refine g [[4]] ?_;refine WP.ret1 rfl rfl rfl (RV.cellN AgF.h SzF.h rfl (vs := [_, _]) rfl (RdN.own (k := 0) (n := 2) rfl rfl)) (fun w1 hI => ⟨_, _, _, rfl, hX, hI.drop 1, rfl, hMM2⟩)
end
section
variable (hH : Holds D w) (fi : FuncId) (cp : List Value)
include hH fi cp
theorem YL (is : Bool) (hfi : ∀ args w, (callFunc fi args).run Tryz.prog w = .ok (.enter fi args) w) (hv : zQ T = false) : xC Tryz.prog 80 [.agg #[.slice a1 n1 c1, .slice a2 n2 c2, .slice a3 n3 c3], .func (.func fi) #[] cp.toArray] w (WX 1) :=
  (YM T a1 a2 a3 n1 n2 n3 c1 c2 c3 D w hR hH fi cp is hfi (fun h => absurd (h.symm.trans hv) (by decide))).mono fun e w' h => h.1 hv
section
variable (hfi : ∀ args w, (callFunc fi args).run Tryz.prog w = .ok (.enter fi args) w)
include hfi
theorem Ur (hIs : zQ T = true → ∀ q mb D' w', DExt w D D' → D' q = some (shoO (.slice a1 n1 c1) (.slice a2 n2 c2) (.slice a3 n3 c3) mb) → Holds D' w' → z8 Tryz.prog fi (pt q :: cp) w' (.bool false)) (hv : zQ T = true) : xC Tryz.prog 80 [.agg #[.slice a1 n1 c1, .slice a2 n2 c2, .slice a3 n3 c3], .func (.func fi) #[] cp.toArray] w (WX 2) :=
  (YM T a1 a2 a3 n1 n2 n3 c1 c2 c3 D w hR hH fi cp false hfi hIs).mono fun e w' h => h.2.1 hv rfl
theorem kH (hIs : zQ T = true → ∀ q mb D' w', DExt w D D' → D' q = some (shoO (.slice a1 n1 c1) (.slice a2 n2 c2) (.slice a3 n3 c3) mb) → Holds D' w' → z8 Tryz.prog fi (pt q :: cp) w' (.bool true)) (hv : zQ T = true) : News Tryz.prog 80 [.agg #[.slice a1 n1 c1, .slice a2 n2 c2, .slice a3 n3 c3], .func (.func fi) #[] cp.toArray] w D (fun v D' h' => ∃ q mb, v = pt q ∧ D' q = some (shoO (.slice a1 n1 c1) (.slice a2 n2 c2) (.slice a3 n3 c3) mb) ∧ h' = [(mb, .map #[] 0)]) :=
  (YM T a1 a2 a3 n1 n2 n3 c1 c2 c3 D w hR hH fi cp true hfi hIs).mono fun e w' h => by
    obtain ⟨q, mb, D', h1, h2, h3, h4⟩ := h.2.2 hv rfl;exact ⟨_, D', _, h1, h2, h4, q, mb, rfl, h3, rfl⟩
end
end
end
end
theorem uL {T : Tide} {n : Int} (h : yO T n = true) : ∃ a : Nat, n = (a : Int) ∧ a < T.sand.length := by
  have := of_decide_eq_true h;exact ⟨n.toNat, by omega, by omega⟩
section
variable (T : Tide) (a1 a2 a3 : Option Addr) (n1 n2 n3 c1 c2 c3 : Nat) (D : Imm) (w : World) (hR : yo D T a1 n1 a2 n2 a3 n3)
include T a1 a2 a3 n1 n2 n3 c1 c2 c3 D w hR
theorem Zq (qb mb : Nat) (hq : D qb = some (shoO (.slice a1 n1 c1) (.slice a2 n2 c2) (.slice a3 n3 c3) mb)) (hH : Holds D w) (hnm : 2 ≤ T.marks.length) (p m : Int) (b4 b5 : Nat) (h4 : D b4 = some (.cells (List.toArray [it p]) 3 (0, 0))) (h5 : D b5 = some (.cells (List.toArray [it m]) 3 (0, 0))) : z8 Tryz.prog 81 [pt qb, pt b4, pt b5] w (.bool (yO T p && zx T m)) := by
  unfold z8;refine en Tryz.func81 rfl Tryz.ntmps81 (Inv.start hH) (g [[1],[5,0,1,2],[3,4,0,1,2]] ?_);refine WL.cl rfl (fun w hI => qL T a1 a2 a3 n1 n2 n3 c1 c2 c3 _ _ hR qb mb hq hI.imm _) (g [[1]] ?_);refine WL.part 8 rfl (fun g8 => ?_) (fun g8 => ?_)
  · refine g [[2]] ?_;refine WL.sog rfl (SO.callP CaF.h rfl (fun w hI => uD T a1 a2 a3 n1 n2 n3 c1 c2 c3 _ _ hR qb mb hq hI.imm hnm _)) rfl (zs (g [[5]] ?_));refine WP.ret1 rfl rfl rfl (RV.tmp rfl) (fun w hI => ⟨zb (by simp_all), hI.keep⟩)
  refine g [[8]] ?_;refine WP.ret1 rfl rfl rfl (RV.tmp rfl) (fun w hI => ⟨zb (by simp_all), hI.keep⟩)
section
variable (hH : Holds D w) (hL : LibW D) (p m : Int)
include hH hL p m
theorem KH (hv : zQ T = false) : z8 Tryz.prog 24 [.agg #[.slice a1 n1 c1, .slice a2 n2 c2, .slice a3 n3 c3], it p, it m] w (.tuple #[.agg #[it (zf T p m).1.lo, it (zf T p m).1.hi], it (zf T p m).2]) := by
  unfold z8;obtain rfl := hR.mark.len';obtain rfl := hR.sand.len';obtain rfl := hR.look.len';obtain ⟨hl1, hl2, hl3⟩ := hR.len;have hO : zf T p m = (⟨0, 0⟩, 1) := by unfold zf un; simp [hv]
  refine enD Tryz.func24 rfl Tryz.ntmps24 (Inv.start hH) (g [[1],[1,0,1,2]] ?_);refine WL.so (SO.box rfl rfl) rfl (zw fun b3 hb3 => ?_);refine WL.so (SO.box rfl rfl) rfl (zw fun b4 hb4 => ?_);refine WL.so (SO.box rfl rfl) rfl (zw fun b5 hb5 => ?_);refine WL.so (SO.alloc ZvF.h rfl) rfl (zw fun b6 hb6 => ?_);refine WL.so (SO.alloc ZvF.h rfl) rfl (zw fun b7 hb7 => ?_);refine g [[3],[2,7,6,5,4,3]] ?_;refine WL.defer rfl (g [[3]] ?_);refine WC.freezeN 3 b4 (.cells (List.toArray [it p]) 3 (0, 0)) rfl rfl hb4 (fun D1 hX1 h4 => ?_);replace hR := hR.ext hX1;replace hL := hL.ext hX1;refine WC.freezeN 2 b5 (.cells (List.toArray [it m]) 3 (0, 0)) rfl rfl hb5 (fun D2 hX2 h5 => ?_);replace hR := hR.ext hX2;replace hL := hL.ext hX2;replace h4 := hX2.old _ _ h4;refine g [[3,7,6,5,4,3]] ?_;refine WL.nf rfl (fun w hI => YL T a1 a2 a3 _ _ _ c1 c2 c3 _ w hR hI.imm 81 [pt b4, pt b5] ((yO T p && zx T m)) CaF.h hv) (g [[1]] ?_);refine WP.panicD (k := 0) [_, _] [_, _] rfl CaF.h rfl (fun w hI => Yn _ _ _ _ _ (hI.own _ _ (List.mem_of_getElem? (i := 0) rfl))) rfl zV (fun w hI => ⟨congrArg Ending.returned (by rw [hO]; rfl), hI.keep⟩)
theorem KI (hv : zQ T = true) (hw : ((yO T p && zx T m)) = false) : z8 Tryz.prog 24 [.agg #[.slice a1 n1 c1, .slice a2 n2 c2, .slice a3 n3 c3], it p, it m] w (.tuple #[.agg #[it (zf T p m).1.lo, it (zf T p m).1.hi], it (zf T p m).2]) := by
  unfold z8;obtain rfl := hR.mark.len';obtain rfl := hR.sand.len';obtain rfl := hR.look.len';obtain ⟨hl1, hl2, hl3⟩ := hR.len;have hT := yK.1 hv;have hO : zf T p m = (⟨0, 0⟩, 2) := by unfold zf un; rw [hw]; simp [hv]
  refine enD Tryz.func24 rfl Tryz.ntmps24 (Inv.start hH) (g [[1],[1,0,1,2]] ?_);refine WL.so (SO.box rfl rfl) rfl (zw fun b3 hb3 => ?_);refine WL.so (SO.box rfl rfl) rfl (zw fun b4 hb4 => ?_);refine WL.so (SO.box rfl rfl) rfl (zw fun b5 hb5 => ?_);refine WL.so (SO.alloc ZvF.h rfl) rfl (zw fun b6 hb6 => ?_);refine WL.so (SO.alloc ZvF.h rfl) rfl (zw fun b7 hb7 => ?_);refine g [[3],[2,7,6,5,4,3]] ?_;refine WL.defer rfl (g [[3]] ?_);refine WC.freezeN 3 b4 (.cells (List.toArray [it p]) 3 (0, 0)) rfl rfl hb4 (fun D1 hX1 h4 => ?_);replace hR := hR.ext hX1;replace hL := hL.ext hX1;refine WC.freezeN 2 b5 (.cells (List.toArray [it m]) 3 (0, 0)) rfl rfl hb5 (fun D2 hX2 h5 => ?_);replace hR := hR.ext hX2;replace hL := hL.ext hX2;replace h4 := hX2.old _ _ h4;refine g [[3,7,6,5,4,3]] ?_;refine WL.nf rfl (fun w hI => Ur T a1 a2 a3 _ _ _ c1 c2 c3 _ w hR hI.imm 81 [pt b4, pt b5] CaF.h (fun _ q mb D' w' hX hq hH => by have := Zq T a1 a2 a3 _ _ _ c1 c2 c3 D' w' (hR.ext hX) q mb hq hH hT.nm.1 p m b4 b5 (hX.old _ _ h4) (hX.old _ _ h5); rwa [hw] at this) hv) (g [[1]] ?_);refine WP.panicD (k := 0) [_, _] [_, _] rfl CaF.h rfl (fun w hI => Yn _ _ _ _ _ (hI.own _ _ (List.mem_of_getElem? (i := 0) rfl))) rfl zV (fun w hI => ⟨congrArg Ending.returned (by rw [hO]; rfl), hI.keep⟩)
theorem KJ (hv : zQ T = true) (hw : ((yO T p && zx T m)) = true) : z8 Tryz.prog 24 [.agg #[.slice a1 n1 c1, .slice a2 n2 c2, .slice a3 n3 c3], it p, it m] w (.tuple #[.agg #[it (zf T p m).1.lo, it (zf T p m).1.hi], it (zf T p m).2]) := by
  unfold z8;obtain rfl := hR.mark.len';obtain rfl := hR.sand.len';obtain rfl := hR.look.len';obtain ⟨hl1, hl2, hl3⟩ := hR.len;have hT := yK.1 hv;have hO : tdL T = [] → zf T p m = (⟨0, 0⟩, 10) := fun h => by unfold zf un; rw [hw]; simp [hv, h]
  have hO0 : tdL T ≠ [] → zf T p m = (xY T p.toNat m, 0) := fun h => by unfold zf un; rw [hw]; simp [hv, h]
  have hmm : zx T m = true := by simp only [Bool.and_eq_true] at hw; exact hw.2
  obtain ⟨a, hpa, ha⟩ := uL (T := T) (n := p) (by simp only [Bool.and_eq_true] at hw; exact hw.1);have hpt : p.toNat = a := by omega
  rw [hpt] at hO0;refine enD Tryz.func24 rfl Tryz.ntmps24 (Inv.start hH) (g [[1],[1,0,1,2]] ?_);refine WL.so (SO.box rfl rfl) rfl (zw fun b3 hb3 => ?_);refine WL.so (SO.box rfl rfl) rfl (zw fun b4 hb4 => ?_);refine WL.so (SO.box rfl rfl) rfl (zw fun b5 hb5 => ?_);refine WL.so (SO.alloc ZvF.h rfl) rfl (zw fun b6 hb6 => ?_);refine WL.so (SO.alloc ZvF.h rfl) rfl (zw fun b7 hb7 => ?_);refine g [[3],[2,7,6,5,4,3]] ?_;refine WL.defer rfl (g [[3]] ?_);refine WC.freezeN 3 b4 (.cells (List.toArray [it p]) 3 (0, 0)) rfl rfl hb4 (fun D1 hX1 h4 => ?_);replace hR := hR.ext hX1;replace hL := hL.ext hX1;refine WC.freezeN 2 b5 (.cells (List.toArray [it m]) 3 (0, 0)) rfl rfl hb5 (fun D2 hX2 h5 => ?_);replace hR := hR.ext hX2;replace hL := hL.ext hX2;replace h4 := hX2.old _ _ h4;refine g [[3,7,6,5,4,3]] ?_;refine WL.so (SO.news (Enters.func CaF.h rfl) (fun w hI => kH T a1 a2 a3 _ _ _ c1 c2 c3 _ w hR hI.imm 81 [pt b4, pt b5] CaF.h (fun _ q mb D' w' hX hq hH => by have := Zq T a1 a2 a3 _ _ _ c1 c2 c3 D' w' (hR.ext hX) q mb hq hH hT.nm.1 p m b4 b5 (hX.old _ _ h4) (hX.old _ _ h5); rwa [hw] at this) hv)) rfl ?_;rintro _ D3 _ ⟨hp3, hX3, ⟨qb, mb, rfl, hq3, rfl⟩, rfl⟩;have hR3 := hR.ext hX3;have hL3 := hL.ext hX3;refine g [[4]] ?_;replace h4 := hX3.old _ _ h4;replace h5 := hX3.old _ _ h5;refine g [[0,8,7,6,5,4]] ?_;refine WC.drawD [] (pz [1,3,7,9,4,10,12,14]) zk zk zX (fun _ hI => hI.drop 99) (g [[4]] ?_);refine WA.so rfl  (SO.altersV (own := [_, _, _]) (hpc := [(mb, .map #[] 0)]) (S1 := [mb]) (fun _ h => h) (fun h => h) (fun _ h => h) (fun _ h => h) (Enters.func CaF.h rfl) (fun w1 _ hI => Q6 T a1 a2 a3 _ _ _ c1 c2 c3 D3 w1 hR3 qb mb hq3 hI.imm hT hL3.done _ (kD T mb) hI) ?_) rfl ?_
  · rintro _ D5 hp5 ⟨rfl, hnil, hMM5⟩ hX5;refine g [[1]] ?_;refine WP.panicD (k := 0) [_, _] [_, _] rfl CaF.h rfl (fun w hI => Yn _ _ _ _ _ (hI.own _ _ (List.mem_of_getElem? (i := 0) rfl))) rfl zV (fun w hI => ⟨congrArg Ending.returned (by rw [hO hnil]; rfl), hI.keep⟩)
  rintro _ D5 _ ⟨hp5, hX5, ⟨hne, al, cl, rfl, hS5, hMM5⟩, rfl⟩;replace hR3 := hR3.ext hX5;replace hq3 := hX5.old _ _ hq3;replace hL3 := hL3.ext hX5;obtain ⟨es, clock, F, rfl, hMR, hFK⟩ := hMM5;replace h4 := hX5.old _ _ h4;replace h5 := hX5.old _ _ h5;refine ⟨fun _ hI => (hI.drop 99).shrink hX5.old, ?_⟩;refine WA.know 16 (nt a) rfl (congrArg it hpa) (WA.so rfl (SO.altersN (own := [_, _, _]) (hpc := [(mb, .map es clock)]) (S1 := [mb]) (fun _ h => h) (fun h => h) (fun _ h => h) (fun _ h => h) (Enters.func CaF.h rfl) (fun w1 hI => Vx T a1 a2 a3 _ _ _ c1 c2 c3 _ w1 hR3 qb mb hq3 hI.imm hT hL3 a ha m hmm al cl hS5 [(mb, .map es clock)] ⟨es, clock, F, rfl, hMR, hFK⟩ hI)) rfl ?_);rintro _ D6 _ ⟨hp6, hX6, ⟨rfl, hMM6⟩, rfl⟩;refine ⟨fun _ hI => (hI.nil.shrink hX6.old).shrink hX5.old, ?_⟩;refine WA.so rfl (SO.store 1 rfl SzF.h rfl rfl rfl rfl (zqb rfl) (za rfl)) rfl ?_;rintro _ _ _ ⟨rfl, rfl, rfl⟩;refine ⟨fun _ hI => (hI.nil.shrink hX6.old).shrink hX5.old, ?_⟩;refine WA.so rfl (SO.store 0 rfl SzF.h rfl rfl rfl rfl (zqb rfl) (za rfl)) rfl ?_;rintro _ _ _ ⟨rfl, rfl, rfl⟩;refine ⟨fun _ hI => (hI.nil.shrink hX6.old).shrink hX5.old, ?_⟩;refine g [[3]] ?_;refine WP.endD [_, _] [_, _] rfl rfl CaF.h (fun w hI => zct _ _) rfl zV (fun w hI => ⟨congrArg Ending.returned (by rw [hO0 hne]; rfl), hI.keep⟩)
theorem k7 : z8 Tryz.prog 24 [.agg #[.slice a1 n1 c1, .slice a2 n2 c2, .slice a3 n3 c3], it p, it m] w (.tuple #[.agg #[it (zf T p m).1.lo, it (zf T p m).1.hi], it (zf T p m).2]) := by
  cases hv : zQ T with
  | false => exact KH T a1 a2 a3 n1 n2 n3 c1 c2 c3 D w hR hH hL p m hv
  | true =>
    cases hw : (yO T p && zx T m) with
    | false => exact KI T a1 a2 a3 n1 n2 n3 c1 c2 c3 D w hR hH hL p m hv hw
    | true => exact KJ T a1 a2 a3 n1 n2 n3 c1 c2 c3 D w hR hH hL p m hv hw
end
end
theorem xd {φ : Nat → Prop} {k : Nat} (h : ∀ j, j < k → φ j) (hk : φ k) : ∀ j, j < k + 1 → φ j := fun j hj => by
  rcases Nat.lt_or_ge j k with h1 | h1
  · exact h j h1
  obtain rfl : j = k := by omega
  exact hk
def WO (l : List Int) (k : Nat) : Int := (l.take k).foldl (fun n x => IntKind.i64.wrap (n * x)) 1
theorem WR {l : List Int} {k : Nat} (hk : k < l.length) : WO l (k + 1) = IntKind.i64.wrap (WO l k * gt l k) := by
  unfold WO;rw [zP hk, List.foldl_append]; rfl
def WF (f : Nat → Int) (T : Tide) (h : Hts) : Nat → Int
  | 0 => 1
  | k + 1 => WO [WF f T h k, f (setU T h k)] 2
theorem Uq : ∃ f : Nat → Int, ∀ (x : Nat) (w : World), z8 Tryz.prog 271 [ut x] w (it (f x)) := by
  apply Exists.intro;intro x w;unfold z8;refine en Tryz.func271 rfl Tryz.ntmps271 zI (g [[1],[5,0],[2,2,0]] ?_);refine WL.yd (Yd.shr rfl rfl (by omega)) rfl (WL.yd (Yd.andW rfl rfl) rfl (g [[1]] ?_));refine WL.yd (Yd.andW rfl rfl) rfl (WL.yd (Yd.addW rfl rfl) rfl (g [[4],[2,0,2]] ?_));refine WL.yd (Yd.shr rfl rfl (by omega)) rfl (WL.yd (Yd.andW rfl rfl) rfl (g [[1]] ?_));refine WL.yd (Yd.andW rfl rfl) rfl (WL.yd (Yd.addW rfl rfl) rfl (g [[4],[2,0,2]] ?_));refine WL.yd (Yd.shr rfl rfl (by omega)) rfl (g [[1]] ?_);refine WL.yd (Yd.addW rfl rfl) rfl (WL.yd (Yd.andW rfl rfl) rfl (g [[4],[3,0,2]] ?_));refine WL.yd (Yd.shr rfl rfl (by omega)) rfl (WL.yd (Yd.addW rfl rfl) rfl (g [[4],[3,0,2]] ?_));refine WL.yd (Yd.shr rfl rfl (by omega)) rfl (WL.yd (Yd.addW rfl rfl) rfl (g [[4],[3,0,2]] ?_));refine WL.yd (Yd.shr rfl rfl (by omega)) rfl (WL.yd (Yd.addW rfl rfl) rfl (g [[4],[2,0,2]] ?_));refine WL.yd (Yd.convW UnF.h UnF.h rfl) rfl (WL.yd (Yd.andW rfl rfl) rfl (g [[4]] ?_));refine WP.ret1 rfl rfl rfl (RV.tmp rfl) (fun w hI => ⟨rfl, hI.keep⟩)
theorem zcO (l : List Int) (a : Option Addr) (n c : Nat) (D : Imm) (w : World) (hS : SlL D 1 (l.map intC) a n) (hn : n ≤ 1000) (hH : Holds D w) : z8 Tryz.prog 270 [.slice a n c] w (it (WO l l.length)) := by
  unfold z8;obtain rfl := hS.len';refine en Tryz.func270 rfl Tryz.ntmps270 (Inv.start hH) (g [[1],[5,0],[6,2,0],[7,3,2,0]] ?_);refine WC.loopF (fun k : Nat => [(3, it (WO l k)), (6, .slice a l.length c), (7, nt l.length), (8, nt k)]) (fun k => k ≤ l.length) (fun k => l.length - k) 0 (by omega) (by exact ⟨rfl, rfl, rfl, rfl, trivial⟩) ?_;intro k hk;refine g [[1],[5,3,6,7,8]] ?_;refine WC.cond rfl (fun c9 => ?_) (fun c9 => ?_)
  · try simp only [zq] at c9
    have hkl : k < l.length := by omega
    refine g [[5],[1,3,6,7,8]] ?_;refine WL.yd (Yd.ix rfl rfl (hS.addr k (by omega))) rfl (WL.yd (Yd.l1 rfl ((hS.at k (by omega)).rd 0 rfl)) rfl (g [[3],[3,5,3,6,7,8]] ?_));refine WL.yd (Yd.mulW rfl rfl) rfl (g [[4],[4,3,6,7,8]] ?_);exact WP.againF (k + 1) (by omega) (by omega) ⟨by rw [WR hkl]; rfl, rfl, rfl, rfl, trivial⟩ (fun _ h => h) (fun h => h)
  try simp only [zq] at c9
  obtain rfl : k = l.length := by omega
  refine g [[6],[6,3]] ?_;refine WP.ret1 rfl rfl rfl (RV.tmp rfl) (fun w hI => ⟨rfl, hI.keep⟩)
theorem zcE (f : Nat → Int) (hf : ∀ (x : Nat) (w : World), z8 Tryz.prog 271 [ut x] w (it (f x))) (T : Tide) (hns : T.sand.length ≤ 4) (h : Hts) (D : Imm) (w : World) (hH : Holds D w) : z8 Tryz.prog 220 [tdV T h, nt T.sand.length] w (it (WF f T h T.sand.length)) := by
  unfold z8;refine en Tryz.func220 rfl Tryz.ntmps220 (Inv.start hH) (g [[1],[1,0,1]] ?_);refine WL.so (SO.box rfl rfl) rfl (zw fun b2 hb2 => ?_);refine g [[4],[6,4,2,1],[3,5,4,2,1]] ?_;refine WL.yd (Yd.sliceArr (h := T.sand.length) Tryz.underlying234 Tryz.sizeOf233 rfl rfl hns) rfl (g [[5]] ?_);refine WC.loopF (fun k : Nat => [(5, it (WF f T h k)), (10, .slice (some ⟨b2, 0 + 4, none⟩) T.sand.length 4), (11, nt T.sand.length), (12, nt k)]) (fun k => k ≤ T.sand.length) (fun k => T.sand.length - k) 0 (by omega) (by exact ⟨rfl, rfl, rfl, rfl, trivial⟩) ?_;intro k hk;refine g [[1],[5,5,10,11,12]] ?_;refine WC.cond rfl (fun c13 => ?_) (fun c13 => ?_)
  · try simp only [zq] at c13
    have hkl : k < T.sand.length := by omega
    have hcell : (tdC T h)[0 + 4 + (k : Int).toNat * 1]? = some (ut (setU T h k)) := by rw [Int.toNat_natCast, KC T h (by omega), if_pos hkl]
    refine g [[5],[1,5,10,11,12]] ?_;refine WL.yd (Yd.ix rfl rfl (rfl)) rfl (WL.yd (Yd.l1 rfl (Rd.own (k := 0) rfl hcell)) rfl (g [[3],[3,7,5,10,11,12]] ?_));refine WL.cl rfl (fun w hI => hf _ _) (WL.so (SO.buildSlice UnF.h SzF.h ZvF.h rfl rfl rfl rfl (cs := [_, _]) rfl) rfl ?_);rintro _ _ _ ⟨b19, hb19, rfl, rfl, rfl⟩;refine WL.freezeN 0 b19 (.cells (List.toArray [it (WF f T h k), it (f (setU T h k))]) 3 (0, 0)) rfl rfl hb19 (fun D2 hX2 h19 => ?_);refine WL.cl rfl (fun w hI => zcO [WF f T h k, f (setU T h k)] (some ⟨b19, 0, none⟩) 2 2 D2 _ (SlL.ofBlock (f := intC) (l := [WF f T h k, f (setU T h k)]) (rest := []) (fun _ => rfl) h19) (by omega) hI.imm) (g [[4],[4,5,10,11,12]] ?_);exact WP.againS (k + 1) (by omega) (by omega) ⟨rfl, rfl, rfl, rfl, trivial⟩ (fun _ h => h) (fun h => h) hX2.old
  try simp only [zq] at c13
  obtain rfl : k = T.sand.length := by omega
  refine g [[6],[6,5]] ?_;refine WP.ret1 rfl rfl rfl (RV.tmp rfl) (fun w hI => ⟨rfl, hI.keep⟩)
theorem Vw (q : Nat) (w : World) : z8 Tryz.prog 219 [pt q] w (.bool true) := by
  unfold z8;refine en Tryz.func219 rfl Tryz.ntmps219 zI (g [[1]] ?_);refine WC.ofFr [] trivial (g [[5],[5,2]] ?_);refine WP.ret1 rfl rfl rfl (RV.tmp rfl) (fun w hI => ⟨rfl, hI.keep⟩)
section
variable (T : Tide) (a1 a2 a3 : Option Addr) (n1 n2 n3 c1 c2 c3 : Nat) (D : Imm) (w : World) (hR : yo D T a1 n1 a2 n2 a3 n3) (hH : Holds D w) (hL : LibW D)
include T a1 a2 a3 n1 n2 n3 c1 c2 c3 D w hR hH hL
theorem KF (hv : zQ T = false) : y6 Tryz.prog 149 [.agg #[.slice a1 n1 c1, .slice a2 n2 c2, .slice a3 n3 c3]] w D (fun v _ => ∃ n, v = .tuple #[it n, it 1]) := by
  unfold y6;obtain rfl := hR.mark.len';obtain rfl := hR.sand.len';obtain rfl := hR.look.len';obtain ⟨hl1, hl2, hl3⟩ := hR.len;refine enD Tryz.func149 rfl Tryz.ntmps149 (Inv.start hH) (g [[1],[1,0]] ?_);refine WL.so (SO.box rfl rfl) rfl (zw fun b1 hb1 => ?_);refine g [[1]] ?_;refine WL.so (SO.alloc ZvF.h rfl) rfl (zw fun b3 hb3 => ?_);refine g [[3],[2,3,2,1]] ?_;refine WL.defer rfl (g [[3],[2,3,2,1]] ?_);refine WL.nf rfl (fun w hI => YL T a1 a2 a3 _ _ _ c1 c2 c3 _ w hR hI.imm 219 [] true CaF.h hv) (g [[1]] ?_);refine WP.panicD (k := 0) [_, _] [_, _] rfl CaF.h rfl (fun w hI => QK _ _ _ _ _ (hI.own _ _ (List.mem_of_getElem? (i := 0) rfl))) rfl zV (fun w hI => ⟨_, D, rfl, hI.keep, hI.imm, DExt.refl _ _, 0, rfl⟩)
theorem KG (hv : zQ T = true) : y6 Tryz.prog 149 [.agg #[.slice a1 n1 c1, .slice a2 n2 c2, .slice a3 n3 c3]] w D (fun v _ => ∃ n, v = .tuple #[it n, it 0]) := by
  unfold y6;obtain rfl := hR.mark.len';obtain rfl := hR.sand.len';obtain rfl := hR.look.len';obtain ⟨hl1, hl2, hl3⟩ := hR.len;have hT := yK.1 hv;obtain ⟨f, hf⟩ := Uq;refine enM Tryz.func149 rfl Tryz.ntmps149 (Inv.start hH) (g [[1],[1,0]] ?_);refine WL.so (SO.box rfl rfl) rfl (zw fun b1 hb1 => ?_);refine g [[1]] ?_;refine WL.so (SO.alloc ZvF.h rfl) rfl (zw fun b3 hb3 => ?_);refine g [[3],[2,3,2,1]] ?_;refine WL.defer rfl (g [[3],[2,3,2,1]] ?_);refine WL.so (SO.news (Enters.func CaF.h rfl) (fun w hI => kH T a1 a2 a3 _ _ _ c1 c2 c3 _ w hR hI.imm 219 [] CaF.h (fun _ q mb D' w' hX hq hH => Vw q w') hv)) rfl ?_;rintro _ D3 _ ⟨hp3, hX3, ⟨qb, mb, rfl, hq3, rfl⟩, rfl⟩;have hR3 := hR.ext hX3;have hL3 := hL.ext hX3;refine WL.so (SO.alloc ZvF.h rfl) rfl (zw fun b4 hb4 => ?_);refine g [[4],[1,4,3,2]] ?_;refine WL.so (SO.alloc ZvF.h rfl) rfl (zw fun b5 hb5 => ?_);refine g [[5]] ?_;refine WC.freezeN 1 b4 (.cells (List.toArray [pt qb]) 134 (0, 0)) rfl rfl hb4 (fun D5 hX5 h4 => ?_);replace hR3 := hR3.ext hX5;replace hq3 := hX5.old _ _ hq3;replace hL3 := hL3.ext hX5;refine g [[0,5,4,3,2]] ?_;refine WC.drawD [] (pz [1,3,4,6]) zk zk zX zNl (g [[2]] ?_);refine WA.so rfl (SO.callP CaF.h rfl (fun w hI => VI T a1 a2 a3 _ _ _ c1 c2 c3 _ _ hR3 qb mb hq3 hI.imm hT)) rfl (zs ⟨zNl, ?_⟩);refine WA.so rfl (SO.makes (Enters.func Tryz.call171 rfl) (fun w hI => Y7 qb _ _ _ hI.imm)) rfl ?_;rintro _ D4 _ ⟨hX4, ⟨bs, bm, rfl, h1, hm⟩, rfl⟩;replace hR3 := hR3.ext hX4;replace hq3 := hX4.old _ _ hq3;replace hL3 := hL3.ext hX4;replace h4 := hX4.old _ _ h4;refine ⟨fun _ hI => hI.nil.shrink hX4.old, ?_⟩;refine g [[3],[0,2,3,4,5,13]] ?_;refine WC.hpEq (hp' := [(b5, .cells (List.toArray [it 0]) 3 (0, 0)), (b3, .cells (List.toArray [it 0]) 51 (0, 0)), (b1, .cells (List.toArray [.slice a1 T.marks.length c1, .slice a2 T.sand.length c2, .slice a3 T.looks.length c3]) 31 (0, 0))] ++ [(mb, .map #[] 0)]) rfl (WC.hpPerm ([(mb, .map #[] 0)] ++ [(b5, .cells (List.toArray [it 0]) 3 (0, 0)), (b3, .cells (List.toArray [it 0]) 51 (0, 0)), (b1, .cells (List.toArray [.slice a1 T.marks.length c1, .slice a2 T.sand.length c2, .slice a3 T.looks.length c3]) 31 (0, 0))]) List.perm_append_comm ?_);refine WC.rangeIterT [(mb, .map #[] 0)] _ rfl (kD T mb) (N := (tdL T).length) (arg := fun k => tdV T (gt (tdL T) k)) (fun w1 hs hD1 => uu T a1 a2 a3 _ _ _ c1 c2 c3 qb mb bs bm D4 w1 hT hR3 hq3 hL3.done h1 hm) rfl Tryz.call235 rfl (fun k _ h => ∃ n : Int, h = [(b5, .cells (List.toArray [it n]) 3 (0, 0)), (b3, .cells (List.toArray [it 0]) 51 (0, 0)), (b1, .cells (List.toArray [.slice a1 T.marks.length c1, .slice a2 T.sand.length c2, .slice a3 T.looks.length c3]) 31 (0, 0))]) (fun _ _ _ => False) (fun _ _ _ _ _ h => h) ⟨0, rfl⟩ ?_ ?_ ?_
  · rintro rec1 l1 Dn0 k D6 _ w1 hrec hk ⟨n, rfl⟩ hX6 hsz;unfold yP;have h46 := hX6.old _ _ h4;have hq6 := hX6.old _ _ hq3;refine g [[1,14,2,3,4,5]] ?_;refine WLF.so (zn rfl) (SO.alloc ZvF.h rfl) rfl (zw fun b6 hb6 => ?_);refine WLF.so (zn rfl) (SO.store 0 rfl SzF.h rfl rfl rfl rfl (zqb rfl) (X2 T _)) rfl (zt (g [[1]] ?_));refine WP.iterBegin 1 rfl hrec (g [[1],[0,6,2,3,4,5]] ?_);refine WCF.tail 9 [0, 1, 2, 3, 4, 5, 6, 7, 8] rfl zk zk (noLets.blk noLets.round) (g [[8]] ?_);refine WQ.know 16 (tdV T (gt (tdL T) k)) rfl rfl (WQ.q rfl (Qt.callP CaF.h rfl (fun w hI => zcE f hf T hT.ns.2 (gt (tdL T) k) _ _ hI.imm)) rfl ?_);refine WQ.tailR (WLF.yd (zn rfl) (Yd.addW rfl rfl) rfl (g [[3]] ?_));refine WP.iterOnN hrec (h1 := [_, _, _]) (fun _ h => List.mem_cons_of_mem _ h) (fun h => (List.nodup_cons.1 h).2) (DExt.refl _ _) ⟨_, rfl⟩
  · rintro Dn1 D6 hM1 _ hDn1 hX6 hMM1 ⟨n, rfl⟩;obtain ⟨es1, clock1, F1, rfl, hMR1, hFK1⟩ := hMM1;refine g [[3],[7,2,3,5]] ?_;refine WP.retMsD [Dn1] [_, _, _, _] [_, _] [_, _] rfl rfl CaF.h (fun w hI => J6 _ _) (fun _ h => h) (fun h => h) rfl zV (fun w hI => ⟨_, D6, rfl, hI.keep, hI.imm, ((hX3.trans hX5 (Nat.le_refl _)).trans hX4 (Nat.le_refl _)).trans hX6 (Nat.le_refl _), n, rfl⟩)
  exact fun _ _ _ _ _ _ _ _ h => h.elim
end
end Go.Proofs.YtejgofaeafphjaaGreatDoor
namespace Go.Ti
open Go.W (gt wX)
def splitB (much : Int) (ps : List Int) : Bool := inB much 0 5000 && decide (ps.length ≤ 6) && ps.all fun p => inB p 0 20
def uY (M A : Nat) (qs : List Nat) (i : Nat) : Nat := M * gt qs i / A
def remN (M A : Nat) (qs : List Nat) (i : Nat) : Nat := M * gt qs i % A
def sumF (f : Nat → Nat) : Nat → Nat
  | 0 => 0
  | n + 1 => sumF f n + f n
def kz (M A : Nat) (qs : List Nat) (k : Nat) : Nat := M - sumF (uY M A qs) k
def incL (l js : List Nat) : List Nat := js.foldl (fun l i => l.set i (gt l i + 1)) l
def keyS (M A : Nat) (qs : List Nat) (i : Nat) : Int := -(remN M A qs i : Int)
def VD (M A : Nat) (qs : List Nat) (k n : Nat) : List Nat := (List.range n).map fun i => if i < k then uY M A qs i else 0
def ZZ (M : Nat) (qs : List Nat) : List Nat := if qs.sum = 0 then List.replicate qs.length 0 else incL (VD M qs.sum qs qs.length qs.length) ((wO (keyS M qs.sum qs) qs.length).take (kz M qs.sum qs qs.length))
theorem UX {l : List Nat} {k : Nat} (hk : k < l.length) : (l.take (k + 1)).sum = (l.take k).sum + gt l k := by
  have hg : gt l k = l[k] := by simp [gt, List.getD, hk]
  rw [List.take_succ_eq_append_getElem hk, List.sum_append, hg];simp
theorem zn7 (l : List Nat) (k : Nat) : (l.take k).sum ≤ l.sum := by
  have h := congrArg List.sum (List.take_append_drop k l);rw [List.sum_append] at h;omega
theorem zmz {l : List Nat} {c : Nat} (h : ∀ i, i < l.length → gt l i ≤ c) : ∀ k, k ≤ l.length → (l.take k).sum ≤ c * k := by
  intro k
  induction k with
  | zero => intro _; simp
  | succ k ih =>
    intro hk;rw [UX (by omega), Nat.mul_succ];have := ih (by omega);have := h k (by omega);omega
theorem QY (M A : Nat) (qs : List Nat) : ∀ k, k ≤ qs.length → sumF (uY M A qs) k * A + sumF (remN M A qs) k = M * (qs.take k).sum := by
  intro k
  induction k with
  | zero => intro _; simp [sumF]
  | succ k ih =>
    intro hk;have h1 := ih (by omega)
    have h2 : uY M A qs k * A + remN M A qs k = M * gt qs k := by
      unfold uY remN;rw [Nat.mul_comm (M * gt qs k / A)];exact Nat.div_add_mod _ _
    show (sumF (uY M A qs) k + uY M A qs k) * A + (sumF (remN M A qs) k + remN M A qs k) = _;rw [UX (by omega), Nat.mul_add, Nat.add_mul];omega
section
variable {M A : Nat} {qs : List Nat}
include M A qs
theorem znr (hA : A = qs.sum) (h0 : 0 < A) {k : Nat} (hk : k ≤ qs.length) : sumF (uY M A qs) k ≤ M := by
  have h1 := QY M A qs k hk;have h2 : M * (qs.take k).sum ≤ M * A := Nat.mul_le_mul_left M (by rw [hA]; exact zn7 qs k);exact Nat.le_of_mul_le_mul_right (by omega : sumF (uY M A qs) k * A ≤ M * A) h0
theorem zb5 (h0 : 0 < A) : ∀ k, sumF (remN M A qs) k ≤ k * (A - 1) := by
  intro k
  induction k with
  | zero => simp [sumF]
  | succ k ih =>
    unfold sumF;have : remN M A qs k < A := Nat.mod_lt _ h0;rw [Nat.succ_mul];omega
theorem XC (hA : A = qs.sum) (h0 : 0 < A) : kz M A qs qs.length * A = sumF (remN M A qs) qs.length := by
  have h1 := QY M A qs qs.length (Nat.le_refl _);rw [List.take_length, ← hA] at h1;unfold kz;rw [Nat.sub_mul];omega
theorem U6 (hA : A = qs.sum) (h0 : 0 < A) : kz M A qs qs.length < qs.length := by
  have h1 := XC (M := M) hA h0;have h2 := zb5 (M := M) (qs := qs) h0 qs.length
  have hn : 0 < qs.length := by
    rcases Nat.eq_zero_or_pos qs.length with h | h
    · have : qs = [] := List.eq_nil_of_length_eq_zero h;rw [this] at hA;simp at hA;omega
    · exact h
  have h3 : qs.length * (A - 1) < qs.length * A := Nat.mul_lt_mul_of_pos_left (by omega) hn;exact Nat.lt_of_mul_lt_mul_right (a := A) (by omega)
end
section
variable (M A : Nat) (qs : List Nat)
include M A qs
theorem Zs (k n : Nat) : (VD M A qs k n).length = n := by simp [VD]
theorem QX {k n i : Nat} (hi : i < n) : gt (VD M A qs k n) i = if i < k then uY M A qs i else 0 := by simp [VD, gt, List.getD, hi]
theorem zmP (n : Nat) : VD M A qs 0 n = List.replicate n 0 := by
  apply List.ext_getElem
  · simp [VD]
  · intro i h1 h2;simp [VD]
theorem zmO {k n : Nat} : (VD M A qs k n).set k (uY M A qs k) = VD M A qs (k + 1) n := by
  apply List.ext_getElem
  · simp [VD]
  · intro i h1 h2;simp only [VD, List.getElem_set, List.getElem_map, List.getElem_range];by_cases e : k = i
    · subst e; rw [if_pos rfl, if_pos (by omega)]
    · rw [if_neg e];by_cases h : i < k
      · rw [if_pos h, if_pos (by omega)]
      · rw [if_neg h, if_neg (by omega)]
end
theorem J7 {l js : List Nat} {k : Nat} (hk : k < js.length) : incL l (js.take (k + 1)) = (incL l (js.take k)).set (gt js k) (gt (incL l (js.take k)) (gt js k) + 1) := by
  have hg : gt js k = js[k] := by simp [gt, List.getD, hk]
  unfold incL;rw [List.take_succ_eq_append_getElem hk, List.foldl_append, hg];rfl
theorem zas (l : List Nat) : ∀ js, (incL l js).length = l.length := by
  intro js
  induction js generalizing l with
  | nil => rfl
  | cons j js ih => exact (ih _).trans (by simp)
theorem zn2 {l : List Nat} {c : Nat} (h : ∀ i, i < l.length → gt l i ≤ c) (js : List Nat) (hjs : ∀ i, i < js.length → gt js i < l.length) : ∀ k, k ≤ js.length → ∀ i, i < l.length → gt (incL l (js.take k)) i ≤ c + k := by
  intro k
  induction k with
  | zero => intro _ i hi; have := h i hi; simp only [List.take_zero]; exact this
  | succ k ih =>
    intro hk i hi;rw [J7 (by omega), VR _ _ _ _ (by rw [zas]; exact hjs k (by omega))];split
    · have := ih (by omega) (gt js k) (hjs k (by omega)); omega
    · have := ih (by omega) i hi; omega
theorem zmt {M A : Nat} {qs : List Nat} (hM : M ≤ 5000) (hq : ∀ i, i < qs.length → gt qs i ≤ 20) {i : Nat} (hi : i < qs.length) : M * gt qs i ≤ 100000 ∧ uY M A qs i ≤ 100000 := by
  have h1 : M * gt qs i ≤ 5000 * 20 := Nat.mul_le_mul hM (hq i hi);have h2 : M * gt qs i / A ≤ M * gt qs i := Nat.div_le_self _ _;unfold uY;omega
end Go.Ti
namespace Go.Ti
open Go.W (gt wX)
theorem Zz {js : List Nat} (h : js.Nodup) {k : Nat} (hk : k < js.length) : gt js k ∉ js.take k := fun hm => by
  obtain ⟨i, hi, e⟩ := uU hm;rw [List.length_take] at hi
  have e2 : gt js i = gt js k := by
    rw [← e]; simp [gt, List.getD, List.getElem?_take, show i < k by omega]
  have := j1 h (by omega) hk e2;omega
theorem wD {js : List Nat} {k i : Nat} (hk : k < js.length) : i ∈ js.take (k + 1) ↔ i ∈ js.take k ∨ i = gt js k := by
  have hg : gt js k = js[k] := by simp [gt, List.getD, hk]
  rw [List.take_succ_eq_append_getElem hk, List.mem_append, List.mem_singleton, hg]
theorem zcu {l js : List Nat} (hjs : js.Nodup) (hlt : ∀ i, i < js.length → gt js i < l.length) : ∀ k, k ≤ js.length → ∀ i, i < l.length → gt (incL l (js.take k)) i = gt l i + if i ∈ js.take k then 1 else 0 := by
  intro k
  induction k with
  | zero => intro _ i hi; simp [incL]
  | succ k ih =>
    intro hk i hi;have h1 := ih (by omega);rw [J7 (by omega), VR _ _ _ _ (by rw [zas]; exact hlt k (by omega))];by_cases e : gt js k = i
    · subst e;rw [if_pos rfl, h1 _ hi, if_neg (Zz hjs (by omega)), if_pos ((wD (by omega)).2 (.inr rfl))]
    · rw [if_neg e, h1 i hi];by_cases hm : i ∈ js.take k
      · rw [if_pos hm, if_pos ((wD (by omega)).2 (.inl hm))]
      · rw [if_neg hm, if_neg (fun h => by rcases (wD (by omega)).1 h with h | h; exact hm h; exact e h.symm)]
theorem YV (key : Nat → Int) (n : Nat) : (wO key n).Nodup := (xU key n).nodup_iff.2 List.nodup_range
section
variable {M : Nat} {qs : List Nat}
def ordS (M : Nat) (qs : List Nat) : List Nat := wO (keyS M qs.sum qs) qs.length
theorem kJ : (ordS M qs).length = qs.length := xy _ _
theorem Uv : (ordS M qs).Perm (List.range qs.length) := xU _ _
theorem JC {a b : Nat} (hab : a < b) (hb : b < qs.length) : lexB (keyS M qs.sum qs) (gt (ordS M qs) a) (gt (ordS M qs) b) := UO _ _ hab hb
def tkS (M : Nat) (qs : List Nat) (i : Nat) : Prop := i ∈ (ordS M qs).take (kz M qs.sum qs qs.length)
instance (i : Nat) : Decidable (tkS M qs i) := inferInstanceAs (Decidable (_ ∈ _))
theorem XX (h0 : 0 < qs.sum) {i : Nat} (hi : i < qs.length) : gt (ZZ M qs) i = uY M qs.sum qs i + if tkS M qs i then 1 else 0 := by
  have hl := U6 (M := M) (A := qs.sum) rfl h0;unfold ZZ; rw [if_neg (by omega), zcu (YV _ _) (fun i hi => by rw [xy] at hi; rw [Zs]; exact qw _ _ hi) _ (by rw [xy]; omega) _ (by rw [Zs]; exact hi), QX _ _ _ hi, if_pos hi];rfl
theorem UW (f : Nat → Nat) (n : Nat) : sumF f n = ((List.range n).map f).sum := by
  induction n with
  | zero => rfl
  | succ n ih => rw [List.range_succ, List.map_append, List.sum_append, ← ih]; simp [sumF]
theorem JQ {l m : List Nat} (h : l.Perm m) : l.sum = m.sum := by
  induction h with
  | nil => rfl
  | cons x _ ih => simp [ih]
  | swap x y l => simp; omega
  | trans _ _ ih1 ih2 => exact ih1.trans ih2
theorem uV {l : List Nat} {c : Nat} (h : ∀ x, x ∈ l → x ≤ c) : l.sum ≤ c * l.length := by
  induction l with
  | nil => simp
  | cons x l ih =>
    have h1 := h x (by simp);have h2 := ih fun y hy => h y (by simp [hy]);simp only [List.sum_cons, List.length_cons, Nat.mul_succ];omega
theorem zde (h0 : 0 < qs.sum) {i : Nat} (hi : tkS M qs i) : 0 < remN M qs.sum qs i := by
  rcases Nat.eq_zero_or_pos (remN M qs.sum qs i) with hz | hz
  · exfalso
    obtain ⟨a, ha, rfl⟩ := uU hi;have hl := U6 (M := M) (A := qs.sum) rfl h0;rw [List.length_take, kJ] at ha;have ha2 : a < kz M qs.sum qs qs.length := by omega
    have e : gt ((ordS M qs).take (kz M qs.sum qs qs.length)) a = gt (ordS M qs) a := by simp [gt, List.getD, List.getElem?_take, ha2]
    rw [e] at hz;have hs := XC (M := M) (A := qs.sum) rfl h0;rw [UW, ← JQ (Uv.map (remN M qs.sum qs)), ← List.take_append_drop a (ordS M qs), List.map_append, List.sum_append] at hs
    have h1 : ((ordS M qs).take a |>.map (remN M qs.sum qs)).sum ≤ (qs.sum - 1) * a := by
      have := uV (l := ((ordS M qs).take a).map (remN M qs.sum qs)) (c := qs.sum - 1) (fun x hx => by
        obtain ⟨y, _, rfl⟩ := List.mem_map.1 hx;have : remN M qs.sum qs y < qs.sum := Nat.mod_lt _ h0;omega)
      rw [List.length_map, List.length_take, kJ, Nat.min_eq_left (by omega)] at this;exact this
    have h2 : ((ordS M qs).drop a |>.map (remN M qs.sum qs)).sum ≤ 0 * ((ordS M qs).drop a |>.map (remN M qs.sum qs)).length := by
      refine uV fun x hx => ?_;obtain ⟨y, hy, rfl⟩ := List.mem_map.1 hx;obtain ⟨b, hb, rfl⟩ := uU hy;rw [List.length_drop, kJ] at hb;have e2 : gt ((ordS M qs).drop a) b = gt (ordS M qs) (a + b) := by simp [gt, List.getD, List.getElem?_drop]
      rw [e2];rcases Nat.eq_zero_or_pos b with hb0 | hb0
      · rw [hb0, Nat.add_zero]; omega
      · have := JC (M := M) (qs := qs) (a := a) (b := a + b) (by omega) (by omega);unfold lexB keyS at this;omega
    have h3 : (qs.sum - 1) * a < kz M qs.sum qs qs.length * qs.sum := by
      have h4 : (qs.sum - 1) * a ≤ qs.sum * a := Nat.mul_le_mul_right _ (by omega);have h5 : (a + 1) * qs.sum ≤ kz M qs.sum qs qs.length * qs.sum := Nat.mul_le_mul_right _ ha2;rw [Nat.add_mul, Nat.mul_comm a] at h5;omega
    rw [Nat.zero_mul] at h2;omega
  · exact hz
end
section
variable {M : Nat} {qs : List Nat} (h0 : 0 < qs.sum) {i : Nat} (hi : i < qs.length)
include M qs h0 i hi
theorem jf (h : uY M qs.sum qs i < gt (ZZ M qs) i) : 0 < remN M qs.sum qs i := by
  rw [XX h0 hi] at h;by_cases ht : tkS M qs i
  · exact zde h0 ht
  · rw [if_neg ht] at h; omega
theorem jd : uY M qs.sum qs i ≤ gt (ZZ M qs) i ∧ gt (ZZ M qs) i ≤ uY M qs.sum qs i + 1 := by
  rw [XX h0 hi]; split <;> omega
end
end Go.Ti
namespace Go.Ti
open Go.W (gt wX)
section
variable {X : Till} {w : Bool} {a : Nat}
end
section
variable {X : Till} {w : Bool} {a : Nat}
end
end Go.Ti
namespace Go.Ti
open Go.W (gt wX)
def zlk (a b : Ent) : Prop := a.ticket = b.ticket ∧ a.kind = b.kind
def Kg (X : Till) (l : List Ent) : Prop := l.Pairwise (fun a b => ¬ zlk a b) ∧ ∀ e, e ∈ l → Zm X e.ticket e.pence e.kind.toNat = true
section
variable {X : Till} {l : List Ent}
end
end Go.Ti
namespace Go.Ti
open Go.W (gt wX)
structure zlp (X : Till) (l : List Ent) (i k : Nat) (F : List Ent) : Prop where
  sub : l.Sublist F
  inn : ∀ e, e ∈ F → e ∈ l ∨ ∃ a j : Nat, (a < i ∨ a = i ∧ j < k) ∧ e.ticket = (a : Int) ∧ e.kind = ((j + 1 : Nat) : Int)
  has : ∀ a j : Nat, (a < i ∨ a = i ∧ j < k) → j < 3 → zlc X l (j + 1) a = true → zM F (a : Int) ((j + 1 : Nat) : Int) = true
  rt : Kg X l → Kg X F
  ok : F.all (entB X) = true
  len : F.length ≤ l.length + 3 * i + k
theorem qC (f : Nat → Bool) : ∀ n i, (xN f n).testBit i = (decide (i < n) && f i) := by
  intro n
  induction n with
  | zero => intro i; simp [xN]
  | succ n ih =>
    intro i;have hlt := qB f n;have hlt2 := qB f (n + 1);rcases Nat.lt_trichotomy i n with h | h | h
    · unfold xN;by_cases hf : f n = true
      · rw [if_pos hf, Nat.add_comm, Nat.testBit_two_pow_add_gt h, ih, decide_eq_true h, decide_eq_true (show i < n + 1 by omega)]
      · rw [if_neg hf, Nat.add_zero, ih, decide_eq_true h, decide_eq_true (show i < n + 1 by omega)]
    · subst h;unfold xN;by_cases hf : f i = true
      · rw [if_pos hf, Nat.add_comm, Nat.testBit_two_pow_add_eq, Nat.testBit_lt_two_pow hlt, hf]; simp
      · rw [if_neg hf, Nat.add_zero, Nat.testBit_lt_two_pow hlt]; simp [hf]
    · rw [Nat.testBit_lt_two_pow (Nat.lt_of_lt_of_le hlt2 (Nat.pow_le_pow_right (by omega) (by omega))), decide_eq_false (by omega)]; rfl
end Go.Ti
namespace Go.Ti
open Go.W (gt wX)
structure IsH (l : List Int) (s : Sp) : Prop where
  lo : s.lo ∈ l
  hi : s.hi ∈ l
  mem : ∀ v, v ∈ l → s.lo ≤ v ∧ v ≤ s.hi
theorem IsH.uniq {l : List Int} {s t : Sp} (h : IsH l s) (h' : IsH l t) : s = t := by
  obtain ⟨a, b⟩ := s;obtain ⟨c, d⟩ := t;have h1 := h.mem _ h'.lo;have h2 := h.mem _ h'.hi;have h3 := h'.mem _ h.lo;have h4 := h'.mem _ h.hi;simp only at h1 h2 h3 h4;rw [Sp.mk.injEq];omega
end Go.Ti
namespace Go.Ti
open Go.W
theorem za2 (f : Nat → Bool) {n i : Nat} (hi : i < n) : xN f n ||| 2 ^ i = xN (fun j => f j || decide (j = i)) n := by
  apply Nat.eq_of_testBit_eq;intro j;rw [Nat.testBit_or, qC, qC, Nat.testBit_two_pow];by_cases h : j < n
  · rw [decide_eq_true h];simp only [Bool.true_and];congr 1;exact decide_eq_decide.2 ⟨Eq.symm, Eq.symm⟩
  · rw [decide_eq_false h, decide_eq_false (by omega : ¬ i = j)]; rfl
theorem QC (f : Nat → Bool) {n i : Nat} (hi : i < n) : xN f n / 2 ^ i % 2 = 1 ↔ f i = true := by
  have h := qC f n i;rw [Nat.testBit_eq_decide_div_mod_eq, decide_eq_true hi, Bool.true_and] at h;rw [← h, decide_eq_true_eq]
theorem vU (t : Tru) (m : Int) : ∀ k, -1 ≤ nowI t m k ∧ nowI t m k < (k : Int) ∧ (nowI t m k < 0 → nowI t m k = -1)
  | 0 => by simp [nowI]
  | k + 1 => by
    have := vU t m k;unfold nowI;split <;> omega
theorem XH (t : Tru) (m : Int) : ∀ k, 0 ≤ nowI t m k → w6 t (nowI t m k).toNat m = true
  | 0 => by simp [nowI]
  | k + 1 => by
    have := XH t m k;unfold nowI;split
    · rename_i h; intro _; simpa using h.1
    · exact this
def keyT (t : Tru) (m : Int) (n : Nat) : Tru := fun i => if i < n ∧ w6 t i m = true then t i else (-1, -1)
theorem U3 {t t' : Tru} {m : Int} {n : Nat} (ht : ∀ i, 0 ≤ (t i).1) (ht' : ∀ i, 0 ≤ (t' i).1) (h : ∀ i, i < n → keyT t m n i = keyT t' m n i) : ∀ k, k ≤ n → nowI t m k = nowI t' m k
  | 0, _ => rfl
  | k + 1, hk => by
    have ih := U3 ht ht' h k (by omega)
    have same : ∀ i, i < n → w6 t i m = w6 t' i m ∧ (w6 t i m = true → t i = t' i) := fun i hi => by
      have e := h i hi;unfold keyT at e;have a := ht i;have a' := ht' i;cases h1 : w6 t i m with
      | true =>
        rw [if_pos ⟨hi, h1⟩] at e;cases h2 : w6 t' i m with
        | true => rw [if_pos ⟨hi, h2⟩] at e; exact ⟨rfl, fun _ => e⟩
        | false => rw [if_neg (by rw [h2]; simp)] at e; rw [e] at a; exact absurd a (by decide)
      | false =>
        rw [if_neg (by rw [h1]; simp)] at e;cases h2 : w6 t' i m with
        | true => rw [if_pos ⟨hi, h2⟩] at e; rw [← e] at a'; exact absurd a' (by decide)
        | false => exact ⟨rfl, fun h => by cases h⟩
    unfold nowI;rw [← ih];have s1 := same k (by omega);have hnn := vU t m k;cases hw : w6 t k m with
    | false => rw [← s1.1, hw]; simp
    | true =>
      rw [← s1.1, hw];by_cases h0 : nowI t m k < 0
      · rw [if_pos ⟨rfl, .inl h0⟩, if_pos ⟨rfl, .inl h0⟩]
      · have w0 := XH t m k (by omega);have s2 := same (nowI t m k).toNat (by omega)
        have eb : befT t k (nowI t m k).toNat = befT t' k (nowI t m k).toNat := by
          unfold befT;rw [s1.2 hw, s2.2 w0]
        rw [eb]
def whoB (m : Int) (n : Nat) (L : List Tru) (i : Nat) : Bool := L.any fun t => decide (nowI t m n = (i : Int))
def noB (m : Int) (n : Nat) (L : List Tru) : Bool := L.any fun t => decide (nowI t m n < 0)
theorem Kd {T : Tks} {m : Int} (h : tksE T (minT m) = 0) : zi T m = ((xN (whoB m T.l.length (allT T)) T.l.length : Int), noB m T.l.length (allT T), 0) := by
  unfold zi;rw [if_neg (by rw [h]; simp)]; rfl
theorem vF (m : Int) (n : Nat) (L : List Tru) (t : Tru) : (∀ i, whoB m n (L ++ [t]) i = (whoB m n L i || decide (nowI t m n = (i : Int)))) ∧ noB m n (L ++ [t]) = (noB m n L || decide (nowI t m n < 0)) := by
  simp [whoB, noB]
section
variable {m : Int} {n : Nat} {L : List Tru}
include m n L
theorem Kb {t : Tru} (hL : ∀ x ∈ L, ∀ i, 0 ≤ (x i).1) (ht : ∀ i, 0 ≤ (t i).1) (h : ∃ x ∈ L, ∀ i, i < n → keyT x m n i = keyT t m n i) : (∀ i, whoB m n (L ++ [t]) i = whoB m n L i) ∧ noB m n (L ++ [t]) = noB m n L := by
  obtain ⟨x, hx, hk⟩ := h;have e := U3 (hL x hx) ht hk n (Nat.le_refl _);refine ⟨fun i => ?_, ?_⟩
  · rw [(vF m n L t).1];by_cases h : nowI t m n = (i : Int)
    · rw [show whoB m n L i = true from List.any_eq_true.2 ⟨x, hx, by rw [e]; exact decide_eq_true h⟩]; rfl
    · rw [decide_eq_false h, Bool.or_false]
  · rw [(vF m n L t).2];by_cases h : nowI t m n < 0
    · rw [show noB m n L = true from List.any_eq_true.2 ⟨x, hx, by rw [e]; exact decide_eq_true h⟩]; rfl
    · rw [decide_eq_false h, Bool.or_false]
theorem Ka {t : Tru} (h : nowI t m n < 0) : xN (whoB m n (L ++ [t])) n = xN (whoB m n L) n ∧ noB m n (L ++ [t]) = true := by
  refine ⟨uB fun i _ => ?_, by rw [(vF m n L t).2, decide_eq_true h, Bool.or_true]⟩;rw [(vF m n L t).1, decide_eq_false (by omega), Bool.or_false]
theorem We {t : Tru} {i : Nat} (h : nowI t m n = (i : Int)) : xN (whoB m n (L ++ [t])) n = xN (fun j => whoB m n L j || decide (j = i)) n ∧ noB m n (L ++ [t]) = noB m n L := by
  refine ⟨uB fun j _ => ?_, by rw [(vF m n L t).2, decide_eq_false (by omega), Bool.or_false]⟩;rw [(vF m n L t).1];congr 1;exact decide_eq_decide.2 (by omega)
theorem zbt (h : L ≠ []) : noB m n L = true ∨ ∃ i, i < n ∧ whoB m n L i = true := by
  cases L with
  | nil => exact absurd rfl h
  | cons t r =>
    have hn := vU t m n;by_cases h0 : nowI t m n < 0
    · exact .inl (List.any_eq_true.2 ⟨t, by simp, decide_eq_true h0⟩)
    · exact .inr ⟨(nowI t m n).toNat, by omega, List.any_eq_true.2 ⟨t, by simp, decide_eq_true (by omega)⟩⟩
end
theorem QD (f : Nat → Bool) {n i : Nat} (hi : i < n) (hf : f i = true) : xN f n ≠ 0 := fun e => by
  have := (QC f hi).2 hf;rw [e] at this;simp at this
end Go.Ti
namespace Go.Proofs.YtejgofaeafphjaaGreatDoor
open Go.W Go.Ti
theorem vB (n : Int) (w : World) : z8 Tryz.prog 89 [it n] w (.bool (minT n)) := by
  unfold z8;refine en Tryz.func89 rfl Tryz.ntmps89 zI (g [[1],[5,0],[2,2,0]] ?_);refine WL.cl rfl (fun w hI => xB _ _ _ _) (g [[4]] ?_);refine WP.ret1 rfl rfl rfl (RV.tmp rfl) (fun w hI => ⟨zb (by simp [minT, inB]), hI.keep⟩)
theorem Qi (p : Pr) (m : Int) (w : World) : z8 Tryz.prog 91 [prV p, it m] w (.bool (inB m p.1 p.2)) := by
  unfold z8;refine en Tryz.func91 rfl Tryz.ntmps91 zI (g [[1],[1,0,1]] ?_);refine WL.so (SO.box rfl rfl) rfl (zw fun b2 hb2 => ?_);refine g [[4],[6,4,2,1]] ?_;refine WL.cl rfl (fun w hI => xB _ _ _ _) (g [[4]] ?_);refine WP.ret1 rfl rfl rfl (RV.tmp rfl) (fun w hI => ⟨rfl, hI.keep⟩)
theorem zdT : zj Tryz.prog 186 [.int .i64 0, .int .i64 0] [(0, 1), (1, 1)] := ⟨⟨_, Tryz.zeroValue186, rfl⟩, _, Tryz.underlying186, fun w => by simp [Tryz.sizeOf3]⟩
abbrev zbK := SaF.mk zdT
attribute [instance] zbK
abbrev KT : Type := { l : List Int // l.length = 10 ∧ ∀ x ∈ l, -1 ≤ x ∧ x ≤ 1000 }
def kvT (y : KT) : Value := .agg (y.1.map it).toArray
theorem kx : ∀ x y, kvT x = kvT y → x = y := fun x y h => by
  apply Subtype.ext;simp only [kvT, Value.agg.injEq] at h;have h2 : x.1.map it = y.1.map it := by simpa using h
  exact (List.map_inj_right (fun a b e => by simpa [it] using e)).1 h2
def clI (x : Int) : Int := if -1 ≤ x ∧ x ≤ 1000 then x else 0
theorem zec (x : Int) : -1 ≤ clI x ∧ clI x ≤ 1000 := by unfold clI; split <;> omega
def kyT (t : Tru) : KT := ⟨[clI (t 0).1, clI (t 0).2, clI (t 1).1, clI (t 1).2, clI (t 2).1, clI (t 2).2, clI (t 3).1, clI (t 3).2, clI (t 4).1, clI (t 4).2], rfl, fun x hx => by
  simp only [List.mem_cons, List.not_mem_nil, or_false] at hx;rcases hx with rfl | rfl | rfl | rfl | rfl | rfl | rfl | rfl | rfl | rfl <;> exact zec _⟩
def TrB (t : Tru) : Prop := ∀ i, (-1 ≤ (t i).1 ∧ (t i).1 ≤ 1000) ∧ -1 ≤ (t i).2 ∧ (t i).2 ≤ 1000
theorem ye {x : Int} (h : -1 ≤ x ∧ x ≤ 1000) : clI x = x := by unfold clI; rw [if_pos h]
theorem XB {t : Tru} (h : TrB t) : truV t = kvT (kyT t) := by
  show truV t = .agg ([clI (t 0).1, clI (t 0).2, clI (t 1).1, clI (t 1).2, clI (t 2).1, clI (t 2).2, clI (t 3).1, clI (t 3).2, clI (t 4).1, clI (t 4).2].map it).toArray;rw [ye (h 0).1, ye (h 0).2, ye (h 1).1, ye (h 1).2, ye (h 2).1, ye (h 2).2, ye (h 3).1, ye (h 3).2, ye (h 4).1, ye (h 4).2];rfl
theorem zaw {t t' : Tru} (h : TrB t) (h' : TrB t') (e : kyT t = kyT t') : ∀ i, i < 5 → t i = t' i := fun i hi => by
  have e2 := congrArg Subtype.val e;simp only [kyT, List.cons.injEq, and_true] at e2
  rw [ye (h 0).1, ye (h 0).2, ye (h 1).1, ye (h 1).2, ye (h 2).1, ye (h 2).2, ye (h 3).1, ye (h 3).2, ye (h 4).1, ye (h 4).2,
    ye (h' 0).1, ye (h' 0).2, ye (h' 1).1, ye (h' 1).2, ye (h' 2).1, ye (h' 2).2, ye (h' 3).1, ye (h' 3).2, ye (h' 4).1, ye (h' 4).2] at e2
  obtain ⟨e0, e1, e2, e3, e4, e5, e6, e7, e8, e9⟩ := e2;rcases (show i = 0 ∨ i = 1 ∨ i = 2 ∨ i = 3 ∨ i = 4 by omega) with rfl | rfl | rfl | rfl | rfl
  · exact Prod.ext e0 e1
  · exact Prod.ext e2 e3
  · exact Prod.ext e4 e5
  · exact Prod.ext e6 e7
  exact Prod.ext e8 e9
theorem zcy : Tryz.prog.keyType 150 = true := by kernel_rfl
theorem ku : Go.Maps.Keyed Tryz.prog 150 := Go.Maps.Keyed.of_law (deep_law_gate ZI (Nat.le_of_ble_eq_true zk) (Nat.le_of_ble_eq_true zk) zcy zk)
theorem zdl {n : Int} (h : -1 ≤ n ∧ n ≤ 1000) : (Lit.int .i64 n).wf = true := by
  simp only [Lit.wf, Bool.and_eq_true, decide_eq_true_eq];exact ⟨Int.le_trans (by decide) h.1, Int.le_trans h.2 (by decide)⟩
theorem Ub (d : Nat) (n : Int) (h : -1 ≤ n ∧ n ≤ 1000) : Tryz.prog.keyLits (d + 1) 3 [it n] = some [.int .i64 n] := by
  have hw := zdl h;simp only [Program.keyLits, Tryz.underlying3];simp [hw]
set_option maxRecDepth 10000 in
theorem v8 (d : Nat) (a b : Int) (ha : -1 ≤ a ∧ a ≤ 1000) (hb : -1 ≤ b ∧ b ≤ 1000) : Tryz.prog.keyLits (d + 2) 148 [it a, it b] = some [.int .i64 a, .int .i64 b] := by
  have h2 : Tryz.prog.cellsOf 148 = 2 := by kernel_rfl
  have h1 : Tryz.prog.cellsOf 3 = 1 := by kernel_rfl
  unfold Program.keyLits;simp only [Tryz.underlying148, h2];simp [h1, Ub, ha, hb]
theorem zl9 {α : Type} {l : List α} (h : l.length = 10) : ∃ a b c d e f g i j k, l = [a, b, c, d, e, f, g, i, j, k] := by
  match l, h with
  | [a, b, c, d, e, f, g, i, j, k], _ => exact ⟨a, b, c, d, e, f, g, i, j, k, rfl⟩
set_option maxRecDepth 10000 in
theorem Xz (y : KT) : ∃ l, keyOf Tryz.prog 150 (kvT y) = some l := by
  obtain ⟨l, hl, hb⟩ := y;obtain ⟨a, b, c, d, e, f, g, i, j, k, rfl⟩ := zl9 hl;have h10 : Tryz.prog.cellsOf 150 = 10 := by kernel_rfl
  have h2 : Tryz.prog.cellsOf 148 = 2 := by kernel_rfl
  have hs : Tryz.prog.types.size + 1 = 433 + 3 := by kernel_rfl
  unfold keyOf;rw [Tryz.underlying150]
  have hf : (kvT ⟨[a, b, c, d, e, f, g, i, j, k], hl, hb⟩).formed Tryz.prog 150 = true := by
    simp [kvT, Value.formed, Tryz.underlying150, h10]
  simp only [zcy, hf, Bool.and_self, if_true, hs];have ha := hb a (by simp);have hb' := hb b (by simp);have hc := hb c (by simp);have hd := hb d (by simp);have he := hb e (by simp);have hf' := hb f (by simp);have hg := hb g (by simp);have hi := hb i (by simp);have hj := hb j (by simp);have hk := hb k (by simp)
  have hl : Tryz.prog.keyLits (433 + 3) 150 [it a, it b, it c, it d, it e, it f, it g, it i, it j, it k] = some [.int .i64 a, .int .i64 b, .int .i64 c, .int .i64 d, .int .i64 e, .int .i64 f, .int .i64 g, .int .i64 i, .int .i64 j, .int .i64 k] := by
    unfold Program.keyLits;simp only [Tryz.underlying150, h10];simp [h2, List.range, List.range.loop, v8 433 a b ha hb', v8 433 c d hc hd, v8 433 e f he hf', v8 433 g i hg hi, v8 433 j k hj hk]
  show ∃ l, (Tryz.prog.keyLits (433 + 3) 150 [it a, it b, it c, it d, it e, it f, it g, it i, it j, it k]).map _ = some l;rw [hl];exact ⟨_, rfl⟩
def ZY (T : Tks) (m : Int) (k : Nat) (y : KT) : Bool := ((allT T).take k).any fun x => decide (y = kyT (Go.Ti.keyT x m T.l.length))
theorem vg {T : Tks} {m : Int} {k : Nat} (hk : k < (allT T).length) : ZY T m (k + 1) = fun y => ZY T m k y || decide (y = kyT (Go.Ti.keyT (gt (allT T) k) m T.l.length)) := by
  funext y;unfold ZY;rw [zP hk, List.any_append]; simp
theorem Xy {t : Tru} (ht : okTr t) (m : Int) (n : Nat) : TrB (Go.Ti.keyT t m n) := fun i => by
  unfold Go.Ti.keyT; split
  · have := ht i; omega
  simp
theorem YE {t : Tru} {m : Int} {k : Nat} (h : w6 t k m = true) : upd (Go.Ti.keyT t m k) k (t k) = Go.Ti.keyT t m (k + 1) := by
  funext j;unfold upd Go.Ti.keyT;by_cases e : j = k
  · subst e; rw [if_pos rfl, if_pos ⟨by omega, h⟩]
  rw [if_neg e];by_cases h2 : j < k ∧ w6 t j m = true
  · rw [if_pos h2, if_pos ⟨by omega, h2.2⟩]
  rw [if_neg h2, if_neg (fun h3 => h2 ⟨by omega, h3.2⟩)]
theorem yJ {t : Tru} {m : Int} {k : Nat} (h : w6 t k m = false) : Go.Ti.keyT t m k = Go.Ti.keyT t m (k + 1) := by
  funext j;unfold Go.Ti.keyT;by_cases h2 : j < k ∧ w6 t j m = true
  · rw [if_pos h2, if_pos ⟨by omega, h2.2⟩]
  rw [if_neg h2, if_neg (fun h3 => by
    by_cases h5 : j = k
    · rw [h5, h] at h3; cases h3.2
    exact h2 ⟨by omega, h3.2⟩)]
def iniK (k : Nat) : Tru := fun j => if j < k then (-1, -1) else (0, 0)
theorem VZ (k : Nat) : upd (iniK k) k (-1, -1) = iniK (k + 1) := by
  funext j;unfold upd iniK;by_cases e : j = k
  · subst e; rw [if_pos rfl, if_pos (by omega)]
  rw [if_neg e];by_cases h2 : j < k
  · rw [if_pos h2, if_pos (by omega)]
  rw [if_neg h2, if_neg (by omega)]
theorem Xr (t : Tru) (m : Int) : truC (iniK 5) = truC (Go.Ti.keyT t m 0) := by
  simp [truC, iniK, Go.Ti.keyT]
section
variable {t : Tru} {m : Int} {k : Nat}
include t m k
theorem kF (h1 : w6 t k m = true) (h2 : nowI t m k < 0 ∨ befT t k (nowI t m k).toNat = true) : nowI t m (k + 1) = (k : Int) := by rw [nowI, if_pos ⟨h1, h2⟩]
theorem Uh (h : ¬ (w6 t k m = true ∧ (nowI t m k < 0 ∨ befT t k (nowI t m k).toNat = true))) : nowI t m (k + 1) = nowI t m k := by rw [nowI, if_neg h]
theorem Ui (h0 : ¬ nowI t m k < 0) (h1 : befT t k (nowI t m k).toNat = false) : nowI t m (k + 1) = nowI t m k := Uh fun h => by
  rcases h.2 with h2 | h2
  · exact h0 h2
  rw [h1] at h2; cases h2
end
theorem U1 (i : Nat) (hi : i < 5) : Obj.cells (splice (truC (iniK i)) (0 + (i : Int).toNat * 2) [it (-1), it (-1)]).toArray 150 (0, 0) = .cells (truC (iniK (i + 1))).toArray 150 (0, 0) := by
  rw [← VZ, ← YX (iniK i) hi (-1, -1), Int.toNat_natCast]
theorem wZ {t : Tru} {m : Int} {i : Nat} (h : w6 t i m = true) (hi : i < 5) : Obj.cells (splice (truC (Go.Ti.keyT t m i)) (0 + (i : Int).toNat * 2) [it (t i).1, it (t i).2]).toArray 150 (0, 0) = .cells (truC (Go.Ti.keyT t m (i + 1))).toArray 150 (0, 0) := by
  rw [← YE h, ← YX _ hi (t i), Int.toNat_natCast]
def whoN (T : Tks) (m : Int) (k : Nat) : Nat := xN (whoB m T.l.length ((allT T).take k)) T.l.length
def whoO (T : Tks) (m : Int) (k : Nat) : Bool := noB m T.l.length ((allT T).take k)
theorem jp (T : Tks) (m : Int) : whoN T m 0 = 0 := by
  unfold whoN
  have : ∀ n, xN (whoB m T.l.length ((allT T).take 0)) n = 0 := fun n => by
    induction n with
    | zero => rfl
    | succ n ih => rw [xN, ih]; simp [whoB]
  exact this _
theorem Wd {T : Tks} (hv : tksB T = true) {m : Int} {k : Nat} (hk : k < (allT T).length) (h : ZY T m k (kyT (Go.Ti.keyT (gt (allT T) k) m T.l.length)) = true) : whoN T m (k + 1) = whoN T m k ∧ whoO T m (k + 1) = whoO T m k ∧ ZY T m (k + 1) = ZY T m k := by
  obtain ⟨x, hx, he⟩ := List.any_eq_true.1 h;have hx2 := List.mem_of_mem_take hx;have e := of_decide_eq_true he
  have hs := Kb (m := m) (n := T.l.length) (L := (allT T).take k) (t := gt (allT T) k) (fun y hy i => (xq hv (List.mem_of_mem_take hy) i).1.1) (fun i => (xq hv (yE hk) i).1.1)
    ⟨x, hx, fun i hi => (zaw (Xy (xq hv (yE hk)) _ _) (Xy (xq hv hx2) _ _) e i (by have := (y8 hv).2.1; omega)).symm⟩
  refine ⟨?_, ?_, ?_⟩
  · unfold whoN; rw [zP hk]; exact uB fun i _ => hs.1 i
  · unfold whoO; rw [zP hk]; exact hs.2
  rw [vg hk]; funext y;cases hy : decide (y = kyT (Go.Ti.keyT (gt (allT T) k) m T.l.length)) with
  | false => simp
  | true => rw [of_decide_eq_true hy, h]; rfl
section
variable {T : Tks} {m : Int}
include T m
theorem Ye {k : Nat} (hk : k < (allT T).length) (h : nowI (gt (allT T) k) m T.l.length < 0) : whoN T m (k + 1) = whoN T m k ∧ whoO T m (k + 1) = true := by
  unfold whoN whoO; rw [zP hk]; exact Ka h
theorem Yf {k i : Nat} (hk : k < (allT T).length) (hi : i < T.l.length) (h : nowI (gt (allT T) k) m T.l.length = (i : Int)) : whoN T m k ||| 2 ^ i = whoN T m (k + 1) ∧ whoO T m (k + 1) = whoO T m k := by
  unfold whoN whoO; rw [zP hk, (We h).1, za2 _ hi]; exact ⟨rfl, (We h).2⟩
theorem K9 (hne : allT T ≠ []) (h1 : whoN T m (allT T).length = 0) (h2 : whoO T m (allT T).length = false) : False := by
  unfold whoN whoO at *;rw [List.take_length] at h1 h2;rcases zbt (m := m) (n := T.l.length) hne with h | ⟨i, hi, h⟩
  · rw [h] at h2; cases h2
  exact QD _ hi h h1
theorem Qj (hne : allT T = []) : whoN T m (allT T).length = 0 ∧ whoO T m (allT T).length = false := by
  rw [hne];exact ⟨jp T m, by simp [whoO, noB]⟩
end
def orL (l : List Nat) (k : Nat) : Nat := (l.take k).foldl (fun n x => n ||| x) 0
theorem XN {l : List Nat} {k : Nat} (hk : k < l.length) : orL l (k + 1) = orL l k ||| gt l k := by
  unfold orL;rw [zP hk, List.foldl_append]; rfl
theorem Kz {l : List Nat} (h : ∀ x ∈ l, x < 32) : ∀ k, k ≤ l.length → orL l k < 32
  | 0, _ => by simp [orL]
  | k + 1, hk => by
    rw [XN (by omega)];exact Nat.or_lt_two_pow (n := 5) (Kz h k (by omega)) (h _ (yE (by omega)))
theorem QL (b : Nat) (e v0 : Int) (t : TypeId) (w : World) (hb : w.heap[b]? = some (.cells (List.toArray [it v0]) t (0, 0))) : Ke Tryz.prog 86 [pt b] (.iface 247 (.agg #[it e])) b (.cells (List.toArray [it e]) t (0, 0)) w := by
  refine yI Tryz.func86 rfl fun c₀ cs hu => ?_;apply wpS_region;simp [wpOpsS, go_sem, recoverD, hu, Tryz.ntmps86];refine (yW e v0 b t w hb).mono ?_;rintro en w' ⟨⟨rfl, hk⟩, hb'⟩;cases c₀
  simp only at hu;subst hu;simp [bodyPostS, results, Tryz.results86, hk, hb']
theorem Qf (l : List Nat) (a : Option Addr) (n c : Nat) (D : Imm) (w : World) (hS : SlL D 1 (l.map natC) a n) (hl : ∀ x ∈ l, x < 32) (hn : n ≤ 1000) (hH : Holds D w) : z8 Tryz.prog 93 [.slice a n c] w (nt (orL l l.length)) := by
  unfold z8;obtain rfl := hS.len';refine en Tryz.func93 rfl Tryz.ntmps93 (Inv.start hH) (g [[1],[6,0],[7,2,0]] ?_);refine WC.loopF (fun k : Nat => [(2, nt (orL l k)), (5, .slice a l.length c), (6, nt l.length), (7, nt k)]) (fun k => k ≤ l.length) (fun k => l.length - k) 0 (by omega) (by exact ⟨rfl, rfl, rfl, rfl, trivial⟩) ?_;intro k hk;refine g [[1],[5,2,5,6,7]] ?_;refine WC.cond rfl (fun c8 => ?_) (fun c8 => ?_)
  · try simp only [zq] at c8
    have hkl : k < l.length := by omega
    refine g [[5],[1,2,5,6,7]] ?_;refine WL.yd (Yd.ix rfl rfl (hS.addr k (by omega))) rfl (WL.yd (Yd.l1 rfl ((hS.at k (by omega)).rd 0 rfl)) rfl (g [[3],[3,4,2,5,6,7]] ?_));refine WL.yd (Yd.orN (Kz hl k hk) (hl _ (yE hkl)) rfl rfl) rfl (g [[4],[4,2,5,6,7]] ?_);exact WP.againF (k + 1) (by omega) (by omega) ⟨by rw [XN hkl]; rfl, rfl, rfl, rfl, trivial⟩ (fun _ h => h) (fun h => h)
  try simp only [zq] at c8
  obtain rfl : k = l.length := by omega
  refine g [[6],[6,2]] ?_;refine WP.ret1 rfl rfl rfl (RV.tmp rfl) (fun w hI => ⟨rfl, hI.keep⟩)
section
variable (T : Tks) (a1 : Option Addr) (n1 c1 : Nat) (D : Imm) (w : World) (hR : TksR D T a1 n1) (hH : Holds D w) (hv : tksB T = true) (m : Int)
include T a1 n1 c1 D w hR hH hv m
theorem KU (hw : minT m = false) : z8 Tryz.prog 25 [.agg #[it T.huts, .slice a1 n1 c1], it m] w (.tuple #[it (zi T m).1, .bool (zi T m).2.1, it (zi T m).2.2]) := by
  unfold z8;obtain rfl := hR.tick.len';have hl1 := hR.len;have h5 := (y8 hv).2.1
  have hE : tksE T (minT m) = 2 := by
    unfold tksE;rw [if_neg (by rw [hv]; simp), if_pos hw]
  have hO0 : zi T m = (0, false, 2) := by unfold zi; rw [if_pos (by rw [hE]; simp), hE]
  refine enD Tryz.func25 rfl Tryz.ntmps25 (Inv.start hH) (g [[1],[1,0,1]] ?_);refine WL.so (SO.box rfl rfl) rfl (zw fun b2 hb2 => ?_);refine WL.so (SO.box rfl rfl) rfl (zw fun b3 hb3 => ?_);refine g [[2]] ?_;refine WL.so (SO.alloc ZvF.h rfl) rfl (zw fun b6 hb6 => ?_);refine g [[3],[2,6,5,4,3,2]] ?_;refine WL.defer rfl (g [[3]] ?_);refine WC.freezeN 2 b2 (boxT T (.slice a1 T.l.length c1)) rfl rfl hb2 (fun D1 hX1 h2 => ?_);replace hR := hR.ext hX1;refine WC.freezeN 1 b3 (.cells (List.toArray [it m]) 3 (0, 0)) rfl rfl hb3 (fun D3 hX3 h3 => ?_);replace hR := hR.ext hX3;replace h2 := hX3.old _ _ h2;refine g [[0,6,5,4,3,2]] ?_;refine WC.drawD [] (pz [1,3,4,6,9]) zk zk zX zNl (g [[2]] ?_);refine WA.so rfl (SO.callP CaF.h rfl (fun w hI => vB _ _)) rfl (zs ⟨zNl, ?_⟩);refine WA.no rfl (SO.fail (Enters.func CaF.h rfl) (fun w hI => by have := j2 T a1 _ c1 _ w hR hI.imm hv; rwa [← hw] at this) (g [[1]] ?_));refine WP.panicD (k := 0) [_, _, _] [_, _, _] rfl CaF.h rfl (fun w hI => za6 _ _ _ _ _ (hI.own _ _ (List.mem_of_getElem? (i := 0) rfl))) rfl zV (fun w hI => ⟨congrArg Ending.returned (by rw [hO0]; rfl), hI.keep⟩)
theorem KV (hw : minT m = true) (hne : allT T = []) : z8 Tryz.prog 25 [.agg #[it T.huts, .slice a1 n1 c1], it m] w (.tuple #[it (zi T m).1, .bool (zi T m).2.1, it (zi T m).2.2]) := by
  unfold z8;obtain rfl := hR.tick.len';have hl1 := hR.len;have h5 := (y8 hv).2.1
  have hE : tksE T (minT m) = 10 := by
    unfold tksE;rw [if_neg (by rw [hv]; simp), if_neg (by rw [hw]; simp), if_pos (by rw [hne]; rfl)]
  have hO0 : zi T m = (0, false, 10) := by unfold zi; rw [if_pos (by rw [hE]; simp), hE]
  refine enM Tryz.func25 rfl Tryz.ntmps25 (Inv.start hH) (g [[1],[1,0,1]] ?_);refine WL.so (SO.box rfl rfl) rfl (zw fun b2 hb2 => ?_);refine WL.so (SO.box rfl rfl) rfl (zw fun b3 hb3 => ?_);refine g [[2]] ?_;refine WL.so (SO.alloc ZvF.h rfl) rfl (zw fun b6 hb6 => ?_);refine g [[3],[2,6,5,4,3,2]] ?_;refine WL.defer rfl (g [[3]] ?_);refine WC.freezeN 2 b2 (boxT T (.slice a1 T.l.length c1)) rfl rfl hb2 (fun D1 hX1 h2 => ?_);replace hR := hR.ext hX1;refine WC.freezeN 1 b3 (.cells (List.toArray [it m]) 3 (0, 0)) rfl rfl hb3 (fun D3 hX3 h3 => ?_);replace hR := hR.ext hX3;replace h2 := hX3.old _ _ h2;refine g [[0,6,5,4,3,2]] ?_;refine WC.drawD [] (pz [1,3,4,6,9]) zk zk zX zNl (g [[2]] ?_);refine WA.so rfl (SO.callP CaF.h rfl (fun w hI => vB _ _)) rfl (zs ⟨zNl, ?_⟩);refine WA.so rfl (SO.makes (Enters.func Tryz.call88 rfl) (fun w hI => by have := x4 T a1 _ c1 _ w hR hI.imm hv; rwa [← hw] at this)) rfl ?_;rintro _ D2 _ ⟨hX2, ⟨bq, rfl, hO⟩, rfl⟩;replace hR := hR.ext hX2;replace h2 := hX2.old _ _ h2;replace h3 := hX2.old _ _ h3;refine ⟨fun _ hI => hI.nil.shrink hX2.old, ?_⟩;refine g [[4],[1,7,6,5,4,3,2]] ?_;refine WL.so SO.makeMap rfl ?_;rintro _ _ _ ⟨b21, hb21, rfl, rfl, rfl⟩;refine WL.so (SO.alloc ZvF.h rfl) rfl (zw fun b8 hb8 => ?_);refine g [[4]] ?_;refine WC.freezeN 0 b8 (.cells (List.toArray [.map (some b21)]) 143 (0, 0)) rfl rfl hb8 (fun D8 hX8 h8 => ?_);replace hR := hR.ext hX8;replace hO := hO.ext hX8;replace h2 := hX8.old _ _ h2;replace h3 := hX8.old _ _ h3;refine g [[1,8,7,6,5,4,3,2]] ?_;refine WL.so (SO.alloc ZvF.h rfl) rfl (zw fun b9 hb9 => ?_);refine WL.so (SO.alloc ZvF.h rfl) rfl (zw fun b10 hb10 => ?_);refine g [[6],[2,10,9,8,7,6,5,4,3,2]] ?_;refine WL.so (SO.makes (Enters.func Tryz.call90 rfl) (fun w hI => we bq _ _ hI.imm)) rfl ?_;rintro _ D4 _ ⟨hX4, ⟨bt, rfl, hbt⟩, rfl⟩;replace hR := hR.ext hX4;replace hO := hO.ext hX4;replace h2 := hX4.old _ _ h2;replace h3 := hX4.old _ _ h3;replace h8 := hX4.old _ _ h8;refine g [[3],[0,3,2,8,9,10,23,4,5,6]] ?_;refine WC.hpEq (hp' := [(b10, .cells (List.toArray [.bool (whoO T m 0)]) 4 (0, 0)), (b9, .cells (List.toArray [nt (whoN T m 0)]) 3 (0, 0)), (b21, .map #[] 0), (b6, .cells (List.toArray [it 0]) 51 (0, 0))]) (by rw [jp]; rfl) ?_;refine WC.rangeIterN (N := (allT T).length) (arg := fun k => truV (gt (allT T) k)) (fun w1 _ hD1 => yt T a1 _ c1 bq bt D4 w1 hO hR hbt hv hD1) rfl Tryz.call177 rfl (fun k _ h => (∃ es clock, h = [(b10, .cells (List.toArray [.bool (whoO T m k)]) 4 (0, 0)), (b9, .cells (List.toArray [nt (whoN T m k)]) 3 (0, 0)), (b21, .map es clock), (b6, .cells (List.toArray [it 0]) 51 (0, 0))] ∧ MapB kvT es clock (ZY T m k))) (fun _ _ _ => False) (fun _ _ _ _ _ h => h) ⟨#[], 0, rfl, MapB.empty kvT⟩ ?_ ?_ ?_
  · rintro rec1 l1 Dn0 k D6 _ w1 hrec hk ⟨es, clock, rfl, hMB⟩ hX6 hsz;unfold yP;replace hR := hR.ext hX6;replace h2 := hX6.old _ _ h2;replace h3 := hX6.old _ _ h3;replace h8 := hX6.old _ _ h8;have hoT := xq hv (yE hk);have hTB := Xy hoT m T.l.length;refine g [[1,24,3,2,8,9,10,4,5,6]] ?_;refine WLF.so (zn rfl) (SO.alloc ZvF.h rfl) rfl (zw fun b11 hb11 => ?_);skip;refine g [[2]] ?_;refine WP.iterBegin 1 rfl hrec (g [[2],[5,11,3,2,8,9,10,4,5,6],[1,12,11,3,2,8,9,10,4,5,6]] ?_);refine WLF.yd (zn rfl) (Yd.buildA (zs := [.int .i64 0, .int .i64 0, .int .i64 0, .int .i64 0, .int .i64 0, .int .i64 0, .int .i64 0, .int .i64 0, .int .i64 0, .int .i64 0]) ⟨_, ZvF.h, rfl⟩ UnF.h SzF.h rfl (cs := [_, _, _, _, _, _, _, _, _, _]) rfl) rfl ?_;refine WLF.so (zn rfl) (SO.alloc ZvF.h rfl) rfl (zw fun b13 hb13 => ?_);refine g [[5],[5,13,12,11,3,2,8,9,10,4,5,6]] ?_;refine WCF.loopHd (b := b13) _ (fun i : Nat => [(2, pt b2), (3, pt b3), (8, pt b8), (9, pt b9), (10, pt b10), (11, pt b11), (12, it (-1)), (13, pt b13), (26, nt i)]) (fun i => .cells (List.toArray (truC (iniK i))) 150 (0, 0)) (fun i => i ≤ 5) (fun i => 5 - i) 0 (by omega) rfl ⟨rfl, rfl, rfl, rfl, rfl, rfl, rfl, rfl, rfl, trivial⟩ ?_;intro i hi;refine g [[1],[5,2,3,8,9,10,11,12,13,26]] ?_;refine WCF.cond rfl (fun c27 => ?_) (fun c27 => ?_)
    · try simp only [zq] at c27
      have hi5 : i < 5 := by omega
      refine g [[5],[5,2,3,8,9,10,11,12,13,26],[3,14,2,3,8,9,10,11,12,13,26]] ?_;refine WLF.yd (zn rfl) (Yd.indexA UnF.h SzF.h rfl rfl (by omega) (by omega)) rfl ?_;refine WLF.so (zn rfl) (SO.store 0 rfl SzF.h rfl rfl rfl rfl (by show 0 + i * 2 + 2 ≤ 10; omega) (za rfl)) rfl (zt (g [[3],[4,2,3,8,9,10,11,12,13,26]] ?_));exact WP.againHd (i + 1) (by omega) (by omega) 0 rfl (U1 i hi5) ⟨rfl, rfl, rfl, rfl, rfl, rfl, rfl, rfl, rfl, trivial⟩
    try simp only [zq] at c27
    obtain rfl : i = 5 := by omega
    refine g [[7],[8,2,3,8,9,10,11,12,13]] ?_;refine WCF.loopHd (b := b13) _ (fun i : Nat => [(3, pt b3), (8, pt b8), (9, pt b9), (10, pt b10), (11, pt b11), (12, it (nowI (gt (allT T) k) m i)), (13, pt b13), (34, .slice a1 T.l.length c1), (35, nt T.l.length), (36, nt i)]) (fun i => .cells (List.toArray (truC (Go.Ti.keyT (gt (allT T) k) m i))) 150 (0, 0)) (fun i => i ≤ T.l.length) (fun i => T.l.length - i) 0 (by omega) (by rw [← Xr]) ⟨rfl, rfl, rfl, rfl, rfl, rfl, rfl, rfl, rfl, rfl, trivial⟩ ?_;intro i hi;have hnn := vU (gt (allT T) k) m i;have hwd : w6 (gt (allT T) k) i m = inB m ((gt (allT T) k) i).1 ((gt (allT T) k) i).2 := rfl;refine g [[1],[5,3,8,9,10,11,12,13,34,35,36]] ?_;refine WCF.cond rfl (fun c37 => ?_) (fun c37 => ?_)
    · try simp only [zq] at c37
      have hil : i < T.l.length := by omega
      have hi5 : i < 5 := by omega
      refine g [[5],[6,3,8,9,10,11,12,13,34,35,36],[0,15,3,8,9,10,11,12,13,34,35,36]] ?_;refine WCF.tail 4 [0, 1, 2, 3] rfl zk zk (noLets.then (noLets.blk (noLets.then (noLets.then (noLets.blk (noLets.then (noLets.blk noLets.round))))))) (g [[1]] ?_);refine WQ.q rfl (Yd.qt (Yd.indexA UnF.h SzF.h rfl rfl (by omega) (by omega))) rfl (WQ.q rfl (Yd.qt (Yd.lV [_, _] rfl (RdN.own (k := 1) (n := 2) rfl (uR (gt (allT T) k) hi5)))) rfl (g [[1]] ?_));refine WQ.tailR (WLF.know 41 (prV ((gt (allT T) k) i)) rfl rfl ?_);refine WLF.cl rfl (fun w hI => Qi ((gt (allT T) k) i) m _) (g [[2]] ?_);refine WCF.cond rfl (fun c43 => ?_) (fun c43 => ?_)
      · have hwt : w6 (gt (allT T) k) i m = true := by rw [hwd]; assumption
        refine g [[1],[3,15,3,8,9,10,11,12,13,34,35,36]] ?_;refine WLF.yd (zn rfl) (Yd.indexA UnF.h SzF.h rfl rfl (by omega) (by omega)) rfl (WLF.yd (zn rfl) (Yd.lV [_, _] rfl (RdN.own (k := 1) (n := 2) rfl (uR (gt (allT T) k) hi5))) rfl ?_);refine WLF.yd (zn rfl) (Yd.indexA UnF.h SzF.h rfl rfl (by omega) (by omega)) rfl ?_;refine WLF.so (zn rfl) (SO.store 0 rfl SzF.h rfl rfl rfl rfl (by show 0 + i * 2 + 2 ≤ 10; omega) (za rfl)) rfl (zt (g [[3],[4,15,3,8,9,10,11,12,13,34,35,36]] ?_));refine WLF.part 51 rfl (fun g51 => ?_) (fun g51 => ?_)
        · try simp only [zq] at g51
          have hnx := kF (t := (gt (allT T) k)) (m := m) (k := i) hwt (.inl (by omega));refine g [[3]] ?_
          first | refine WLF.know 54 (nt (nowI (gt (allT T) k) m i).toNat) rfl (congrArg it hnn2) ?_ | skip
          refine g [[4]] ?_;refine WCF.condT rfl (g [[6,15,3,8,9,10,11,12,13,34,35,36],[4,12,3,8,9,10,11,13,34,35,36]] ?_);exact WP.againHd (i + 1) (by omega) (by omega) 0 rfl (by first | exact wZ hwt hi5 | rw [← yJ hwt]) ⟨rfl, rfl, rfl, rfl, rfl, by show some (it _) = some (it _); rw [hnx], rfl, rfl, rfl, rfl, trivial⟩
        try simp only [zq] at g51
        have hnn2 : nowI (gt (allT T) k) m i = (((nowI (gt (allT T) k) m i).toNat : Nat) : Int) := by omega
        refine g [[3]] ?_
        first | refine WLF.know 54 (nt (nowI (gt (allT T) k) m i).toNat) rfl (congrArg it hnn2) ?_ | skip
        refine WLF.sog (zn rfl) rfl (SO.callP CaF.h rfl (fun w hI => ka (gt (allT T) k) i (nowI (gt (allT T) k) m i).toNat hi5 (by omega) _)) rfl (zs (g [[3]] ?_));refine WCF.cond rfl (fun c56 => ?_) (fun c56 => ?_)
        · have hnx := kF (t := (gt (allT T) k)) (m := m) (k := i) hwt (.inr c56);refine g [[6,15,3,8,9,10,11,12,13,34,35,36],[4,12,3,8,9,10,11,13,34,35,36]] ?_;exact WP.againHd (i + 1) (by omega) (by omega) 0 rfl (by first | exact wZ hwt hi5 | rw [← yJ hwt]) ⟨rfl, rfl, rfl, rfl, rfl, by show some (it _) = some (it _); rw [hnx], rfl, rfl, rfl, rfl, trivial⟩
        have hnx := Ui (t := (gt (allT T) k)) (m := m) (k := i) (by omega) c56;refine g [[3],[4,3,8,9,10,11,12,13,34,35,36]] ?_;exact WP.againHd (i + 1) (by omega) (by omega) 0 rfl (by first | exact wZ hwt hi5 | rw [← yJ hwt]) ⟨rfl, rfl, rfl, rfl, rfl, by show some (it _) = some (it _); rw [hnx], rfl, rfl, rfl, rfl, trivial⟩
      have hwt : w6 (gt (allT T) k) i m = false := by rw [hwd]; assumption
      have hnx := Uh (t := (gt (allT T) k)) (m := m) (k := i) (fun h => by rw [hwt] at h; cases h.1);refine g [[3],[4,3,8,9,10,11,12,13,34,35,36]] ?_;exact WP.againHd (i + 1) (by omega) (by omega) 0 rfl (by first | exact wZ hwt hi5 | rw [← yJ hwt]) ⟨rfl, rfl, rfl, rfl, rfl, by show some (it _) = some (it _); rw [hnx], rfl, rfl, rfl, rfl, trivial⟩
    try simp only [zq] at c37
    obtain rfl : i = T.l.length := by omega
    refine g [[7],[3,8,9,10,12,13]] ?_;refine WLF.know 60 (kvT (kyT (Go.Ti.keyT (gt (allT T) k) m T.l.length))) rfl (XB hTB) (WLF.yd (zn rfl) (Yd.lookB (y := kyT (Go.Ti.keyT (gt (allT T) k) m T.l.length)) kx ku Xz UnF.h ZvF.h (j := 6) rfl rfl rfl hMB) rfl (g [[2]] ?_));refine WCF.cond rfl (fun c61 => ?_) (fun c61 => ?_)
    · obtain ⟨hs1, hs2, hs3⟩ := Wd hv hk c61;refine g [[3]] ?_;refine WP.iterOnN hrec (h1 := [_, _, _, _]) zU1 zU2 (DExt.refl _ _) ⟨es, clock, ?_, ?_⟩
      · rw [hs1, hs2]
      rw [hs3]; exact hMB
    refine g [[3],[3,8,9,10,12,13]] ?_;refine WLF.know 63 (kvT (kyT (Go.Ti.keyT (gt (allT T) k) m T.l.length))) rfl (XB hTB) (WLF.so (zn rfl) (SO.putB (y := kyT (Go.Ti.keyT (gt (allT T) k) m T.l.length)) kx ku Xz UnF.h rfl rfl rfl (j := 6) rfl hMB) rfl ?_);rintro _ _ _ ⟨rfl, es1, clock1, rfl, hMB1⟩;refine g [[3],[5,9,10,12]] ?_;refine WCF.cond rfl (fun c65 => ?_) (fun c65 => ?_)
    · try simp only [zq] at c65
      obtain ⟨hs1, hs2⟩ := Ye hk c65;refine g [[4,10]] ?_;refine WP.iterOnN hrec (h1 := [_, _, _, _]) zU1 zU2 (DExt.refl _ _) ⟨es1, clock1, ?_, ?_⟩
      · rw [hs1, hs2]; rfl
      rw [vg hk]; exact hMB1
    try simp only [zq] at c65
    obtain ⟨q, hqn⟩ : ∃ q : Nat, nowI (gt (allT T) k) m T.l.length = (q : Int) := ⟨(nowI (gt (allT T) k) m T.l.length).toNat, by omega⟩;have hnn := vU (gt (allT T) k) m T.l.length;have hql : q < T.l.length := by omega
    obtain ⟨hs1, hs2⟩ := Yf hk hql hqn;have hw32 : whoN T m k < 32 := Nat.lt_of_lt_of_le (qB _ _) (Nat.pow_le_pow_right (by decide) h5);have hq32 : 2 ^ q < 32 := Nat.lt_of_lt_of_le (Nat.pow_lt_pow_right (by decide) hql) (Nat.pow_le_pow_right (by decide) h5);refine g [[0,9,12]] ?_;refine WCF.tail 3 [0, 1, 2] rfl zk zk (noLets.blk noLets.round) (g [[2]] ?_);refine WQ.know 67 (nt q) rfl (congrArg it hqn) (WQ.q rfl (Yd.qt (Yd.shlN (k := q) rfl rfl (by omega))) rfl ?_);refine WQ.tailR (WLF.so (zn rfl) (SO.buildSlice UnF.h SzF.h ZvF.h rfl rfl rfl rfl (cs := [_, _]) rfl) rfl ?_);rintro _ _ _ ⟨b69, hb69, rfl, rfl, rfl⟩;refine WLF.freezeN 0 b69 (.cells (List.toArray [nt (whoN T m k), nt (2 ^ q)]) 3 (0, 0)) rfl rfl hb69 (fun D69 hX69 h69 => ?_);refine WLF.cl rfl (fun w hI => Qf [whoN T m k, 2 ^ q] (some ⟨b69, 0, none⟩) 2 2 D69 _ (SlL.ofBlock (f := natC) (l := [whoN T m k, 2 ^ q]) (rest := []) (fun _ => rfl) h69) (by intro x hx; simp only [List.mem_cons, List.not_mem_nil, or_false] at hx; rcases hx with rfl | rfl; exact hw32; exact hq32) (by omega) hI.imm) ?_;refine WLF.know 70 (nt (whoN T m (k + 1))) rfl (by rw [← hs1]; show nt (orL [whoN T m k, 2 ^ q] 2) = _; simp [orL]) (g [[3]] ?_);refine WP.iterOnN hrec (h1 := [_, _, _, _]) zU1 zU2 hX69 ⟨es1, clock1, ?_, ?_⟩
    · rw [hs2]; rfl
    rw [vg hk]; exact hMB1
  · rintro Dn1 D6 _ hDn1 hX6 ⟨es, clock, rfl, hMB⟩;refine g [[3],[4,9,10,4,5,6]] ?_;refine WL.part 73 rfl (fun g73 => ?_) (fun g73 => ?_)
    · try simp only [zq] at g73
      exact absurd (Qj (m := m) hne).1 (by omega)
    try simp only [zq] at g73
    refine g [[2]] ?_;refine WL.part 75 rfl (fun g75 => ?_) (fun g75 => ?_)
    · rw [(Qj hne).2] at g75; cases g75
    refine WL.nf rfl (fun w hI => xo _ _) (g [[1]] ?_);refine WP.panicMsD (k := 3) [Dn1] [_, _, _, _] [_, _, _] [_, _, _] rfl CaF.h rfl (fun w hI => QL _ _ _ _ _ (hI.own _ _ (List.mem_of_getElem? (i := 3) rfl))) (fun _ h => h) (fun h => h) rfl zV (fun w hI => ⟨congrArg Ending.returned (by rw [hO0]; rfl), hI.keep⟩)
  exact fun _ _ _ _ _ _ h => h.elim
theorem Qv (hw : minT m = true) (hne : allT T ≠ []) : z8 Tryz.prog 25 [.agg #[it T.huts, .slice a1 n1 c1], it m] w (.tuple #[it (zi T m).1, .bool (zi T m).2.1, it (zi T m).2.2]) := by
  unfold z8;obtain rfl := hR.tick.len';have hl1 := hR.len;have h5 := (y8 hv).2.1
  have hE : tksE T (minT m) = 0 := by
    unfold tksE;rw [if_neg (by rw [hv]; simp), if_neg (by rw [hw]; simp), if_neg (by rw [List.isEmpty_iff]; exact hne)]
  have hO0 : zi T m = ((whoN T m (allT T).length : Int), whoO T m (allT T).length, 0) := by rw [Kd hE]; unfold whoN whoO; rw [List.take_length]
  refine enM Tryz.func25 rfl Tryz.ntmps25 (Inv.start hH) (g [[1],[1,0,1]] ?_);refine WL.so (SO.box rfl rfl) rfl (zw fun b2 hb2 => ?_);refine WL.so (SO.box rfl rfl) rfl (zw fun b3 hb3 => ?_);refine g [[2]] ?_;refine WL.so (SO.alloc ZvF.h rfl) rfl (zw fun b6 hb6 => ?_);refine g [[3],[2,6,5,4,3,2]] ?_;refine WL.defer rfl (g [[3]] ?_);refine WC.freezeN 2 b2 (boxT T (.slice a1 T.l.length c1)) rfl rfl hb2 (fun D1 hX1 h2 => ?_);replace hR := hR.ext hX1;refine WC.freezeN 1 b3 (.cells (List.toArray [it m]) 3 (0, 0)) rfl rfl hb3 (fun D3 hX3 h3 => ?_);replace hR := hR.ext hX3;replace h2 := hX3.old _ _ h2;refine g [[0,6,5,4,3,2]] ?_;refine WC.drawD [] (pz [1,3,4,6,9]) zk zk zX zNl (g [[2]] ?_);refine WA.so rfl (SO.callP CaF.h rfl (fun w hI => vB _ _)) rfl (zs ⟨zNl, ?_⟩);refine WA.so rfl (SO.makes (Enters.func Tryz.call88 rfl) (fun w hI => by have := x4 T a1 _ c1 _ w hR hI.imm hv; rwa [← hw] at this)) rfl ?_;rintro _ D2 _ ⟨hX2, ⟨bq, rfl, hO⟩, rfl⟩;replace hR := hR.ext hX2;replace h2 := hX2.old _ _ h2;replace h3 := hX2.old _ _ h3;refine ⟨fun _ hI => hI.nil.shrink hX2.old, ?_⟩;refine g [[4],[1,7,6,5,4,3,2]] ?_;refine WL.so SO.makeMap rfl ?_;rintro _ _ _ ⟨b21, hb21, rfl, rfl, rfl⟩;refine WL.so (SO.alloc ZvF.h rfl) rfl (zw fun b8 hb8 => ?_);refine g [[4]] ?_;refine WC.freezeN 0 b8 (.cells (List.toArray [.map (some b21)]) 143 (0, 0)) rfl rfl hb8 (fun D8 hX8 h8 => ?_);replace hR := hR.ext hX8;replace hO := hO.ext hX8;replace h2 := hX8.old _ _ h2;replace h3 := hX8.old _ _ h3;refine g [[1,8,7,6,5,4,3,2]] ?_;refine WL.so (SO.alloc ZvF.h rfl) rfl (zw fun b9 hb9 => ?_);refine WL.so (SO.alloc ZvF.h rfl) rfl (zw fun b10 hb10 => ?_);refine g [[6],[2,10,9,8,7,6,5,4,3,2]] ?_;refine WL.so (SO.makes (Enters.func Tryz.call90 rfl) (fun w hI => we bq _ _ hI.imm)) rfl ?_;rintro _ D4 _ ⟨hX4, ⟨bt, rfl, hbt⟩, rfl⟩;replace hR := hR.ext hX4;replace hO := hO.ext hX4;replace h2 := hX4.old _ _ h2;replace h3 := hX4.old _ _ h3;replace h8 := hX4.old _ _ h8;refine g [[3],[0,3,2,8,9,10,23,4,5,6]] ?_;refine WC.hpEq (hp' := [(b10, .cells (List.toArray [.bool (whoO T m 0)]) 4 (0, 0)), (b9, .cells (List.toArray [nt (whoN T m 0)]) 3 (0, 0)), (b21, .map #[] 0), (b6, .cells (List.toArray [it 0]) 51 (0, 0))]) (by rw [jp]; rfl) ?_;refine WC.rangeIterN (N := (allT T).length) (arg := fun k => truV (gt (allT T) k)) (fun w1 _ hD1 => yt T a1 _ c1 bq bt D4 w1 hO hR hbt hv hD1) rfl Tryz.call177 rfl (fun k _ h => (∃ es clock, h = [(b10, .cells (List.toArray [.bool (whoO T m k)]) 4 (0, 0)), (b9, .cells (List.toArray [nt (whoN T m k)]) 3 (0, 0)), (b21, .map es clock), (b6, .cells (List.toArray [it 0]) 51 (0, 0))] ∧ MapB kvT es clock (ZY T m k))) (fun _ _ _ => False) (fun _ _ _ _ _ h => h) ⟨#[], 0, rfl, MapB.empty kvT⟩ ?_ ?_ ?_
  · rintro rec1 l1 Dn0 k D6 _ w1 hrec hk ⟨es, clock, rfl, hMB⟩ hX6 hsz;unfold yP;replace hR := hR.ext hX6;replace h2 := hX6.old _ _ h2;replace h3 := hX6.old _ _ h3;replace h8 := hX6.old _ _ h8;have hoT := xq hv (yE hk);have hTB := Xy hoT m T.l.length;refine g [[1,24,3,2,8,9,10,4,5,6]] ?_;refine WLF.so (zn rfl) (SO.alloc ZvF.h rfl) rfl (zw fun b11 hb11 => ?_);skip;refine g [[2]] ?_;refine WP.iterBegin 1 rfl hrec (g [[2],[5,11,3,2,8,9,10,4,5,6],[1,12,11,3,2,8,9,10,4,5,6]] ?_);refine WLF.yd (zn rfl) (Yd.buildA (zs := [.int .i64 0, .int .i64 0, .int .i64 0, .int .i64 0, .int .i64 0, .int .i64 0, .int .i64 0, .int .i64 0, .int .i64 0, .int .i64 0]) ⟨_, ZvF.h, rfl⟩ UnF.h SzF.h rfl (cs := [_, _, _, _, _, _, _, _, _, _]) rfl) rfl ?_;refine WLF.so (zn rfl) (SO.alloc ZvF.h rfl) rfl (zw fun b13 hb13 => ?_);refine g [[5],[5,13,12,11,3,2,8,9,10,4,5,6]] ?_;refine WCF.loopHd (b := b13) _ (fun i : Nat => [(2, pt b2), (3, pt b3), (8, pt b8), (9, pt b9), (10, pt b10), (11, pt b11), (12, it (-1)), (13, pt b13), (26, nt i)]) (fun i => .cells (List.toArray (truC (iniK i))) 150 (0, 0)) (fun i => i ≤ 5) (fun i => 5 - i) 0 (by omega) rfl ⟨rfl, rfl, rfl, rfl, rfl, rfl, rfl, rfl, rfl, trivial⟩ ?_;intro i hi;refine g [[1],[5,2,3,8,9,10,11,12,13,26]] ?_;refine WCF.cond rfl (fun c27 => ?_) (fun c27 => ?_)
    · try simp only [zq] at c27
      have hi5 : i < 5 := by omega
      refine g [[5],[5,2,3,8,9,10,11,12,13,26],[3,14,2,3,8,9,10,11,12,13,26]] ?_;refine WLF.yd (zn rfl) (Yd.indexA UnF.h SzF.h rfl rfl (by omega) (by omega)) rfl ?_;refine WLF.so (zn rfl) (SO.store 0 rfl SzF.h rfl rfl rfl rfl (by show 0 + i * 2 + 2 ≤ 10; omega) (za rfl)) rfl (zt (g [[3],[4,2,3,8,9,10,11,12,13,26]] ?_));exact WP.againHd (i + 1) (by omega) (by omega) 0 rfl (U1 i hi5) ⟨rfl, rfl, rfl, rfl, rfl, rfl, rfl, rfl, rfl, trivial⟩
    try simp only [zq] at c27
    obtain rfl : i = 5 := by omega
    refine g [[7],[8,2,3,8,9,10,11,12,13]] ?_;refine WCF.loopHd (b := b13) _ (fun i : Nat => [(3, pt b3), (8, pt b8), (9, pt b9), (10, pt b10), (11, pt b11), (12, it (nowI (gt (allT T) k) m i)), (13, pt b13), (34, .slice a1 T.l.length c1), (35, nt T.l.length), (36, nt i)]) (fun i => .cells (List.toArray (truC (Go.Ti.keyT (gt (allT T) k) m i))) 150 (0, 0)) (fun i => i ≤ T.l.length) (fun i => T.l.length - i) 0 (by omega) (by rw [← Xr]) ⟨rfl, rfl, rfl, rfl, rfl, rfl, rfl, rfl, rfl, rfl, trivial⟩ ?_;intro i hi;have hnn := vU (gt (allT T) k) m i;have hwd : w6 (gt (allT T) k) i m = inB m ((gt (allT T) k) i).1 ((gt (allT T) k) i).2 := rfl;refine g [[1],[5,3,8,9,10,11,12,13,34,35,36]] ?_;refine WCF.cond rfl (fun c37 => ?_) (fun c37 => ?_)
    · try simp only [zq] at c37
      have hil : i < T.l.length := by omega
      have hi5 : i < 5 := by omega
      refine g [[5],[6,3,8,9,10,11,12,13,34,35,36],[0,15,3,8,9,10,11,12,13,34,35,36]] ?_;refine WCF.tail 4 [0, 1, 2, 3] rfl zk zk (noLets.then (noLets.blk (noLets.then (noLets.then (noLets.blk (noLets.then (noLets.blk noLets.round))))))) (g [[1]] ?_);refine WQ.q rfl (Yd.qt (Yd.indexA UnF.h SzF.h rfl rfl (by omega) (by omega))) rfl (WQ.q rfl (Yd.qt (Yd.lV [_, _] rfl (RdN.own (k := 1) (n := 2) rfl (uR (gt (allT T) k) hi5)))) rfl (g [[1]] ?_));refine WQ.tailR (WLF.know 41 (prV ((gt (allT T) k) i)) rfl rfl ?_);refine WLF.cl rfl (fun w hI => Qi ((gt (allT T) k) i) m _) (g [[2]] ?_);refine WCF.cond rfl (fun c43 => ?_) (fun c43 => ?_)
      · have hwt : w6 (gt (allT T) k) i m = true := by rw [hwd]; assumption
        refine g [[1],[3,15,3,8,9,10,11,12,13,34,35,36]] ?_;refine WLF.yd (zn rfl) (Yd.indexA UnF.h SzF.h rfl rfl (by omega) (by omega)) rfl (WLF.yd (zn rfl) (Yd.lV [_, _] rfl (RdN.own (k := 1) (n := 2) rfl (uR (gt (allT T) k) hi5))) rfl ?_);refine WLF.yd (zn rfl) (Yd.indexA UnF.h SzF.h rfl rfl (by omega) (by omega)) rfl ?_;refine WLF.so (zn rfl) (SO.store 0 rfl SzF.h rfl rfl rfl rfl (by show 0 + i * 2 + 2 ≤ 10; omega) (za rfl)) rfl (zt (g [[3],[4,15,3,8,9,10,11,12,13,34,35,36]] ?_));refine WLF.part 51 rfl (fun g51 => ?_) (fun g51 => ?_)
        · try simp only [zq] at g51
          have hnx := kF (t := (gt (allT T) k)) (m := m) (k := i) hwt (.inl (by omega));refine g [[3]] ?_
          first | refine WLF.know 54 (nt (nowI (gt (allT T) k) m i).toNat) rfl (congrArg it hnn2) ?_ | skip
          refine g [[4]] ?_;refine WCF.condT rfl (g [[6,15,3,8,9,10,11,12,13,34,35,36],[4,12,3,8,9,10,11,13,34,35,36]] ?_);exact WP.againHd (i + 1) (by omega) (by omega) 0 rfl (by first | exact wZ hwt hi5 | rw [← yJ hwt]) ⟨rfl, rfl, rfl, rfl, rfl, by show some (it _) = some (it _); rw [hnx], rfl, rfl, rfl, rfl, trivial⟩
        try simp only [zq] at g51
        have hnn2 : nowI (gt (allT T) k) m i = (((nowI (gt (allT T) k) m i).toNat : Nat) : Int) := by omega
        refine g [[3]] ?_
        first | refine WLF.know 54 (nt (nowI (gt (allT T) k) m i).toNat) rfl (congrArg it hnn2) ?_ | skip
        refine WLF.sog (zn rfl) rfl (SO.callP CaF.h rfl (fun w hI => ka (gt (allT T) k) i (nowI (gt (allT T) k) m i).toNat hi5 (by omega) _)) rfl (zs (g [[3]] ?_));refine WCF.cond rfl (fun c56 => ?_) (fun c56 => ?_)
        · have hnx := kF (t := (gt (allT T) k)) (m := m) (k := i) hwt (.inr c56);refine g [[6,15,3,8,9,10,11,12,13,34,35,36],[4,12,3,8,9,10,11,13,34,35,36]] ?_;exact WP.againHd (i + 1) (by omega) (by omega) 0 rfl (by first | exact wZ hwt hi5 | rw [← yJ hwt]) ⟨rfl, rfl, rfl, rfl, rfl, by show some (it _) = some (it _); rw [hnx], rfl, rfl, rfl, rfl, trivial⟩
        have hnx := Ui (t := (gt (allT T) k)) (m := m) (k := i) (by omega) c56;refine g [[3],[4,3,8,9,10,11,12,13,34,35,36]] ?_;exact WP.againHd (i + 1) (by omega) (by omega) 0 rfl (by first | exact wZ hwt hi5 | rw [← yJ hwt]) ⟨rfl, rfl, rfl, rfl, rfl, by show some (it _) = some (it _); rw [hnx], rfl, rfl, rfl, rfl, trivial⟩
      have hwt : w6 (gt (allT T) k) i m = false := by rw [hwd]; assumption
      have hnx := Uh (t := (gt (allT T) k)) (m := m) (k := i) (fun h => by rw [hwt] at h; cases h.1);refine g [[3],[4,3,8,9,10,11,12,13,34,35,36]] ?_;exact WP.againHd (i + 1) (by omega) (by omega) 0 rfl (by first | exact wZ hwt hi5 | rw [← yJ hwt]) ⟨rfl, rfl, rfl, rfl, rfl, by show some (it _) = some (it _); rw [hnx], rfl, rfl, rfl, rfl, trivial⟩
    try simp only [zq] at c37
    obtain rfl : i = T.l.length := by omega
    refine g [[7],[3,8,9,10,12,13]] ?_;refine WLF.know 60 (kvT (kyT (Go.Ti.keyT (gt (allT T) k) m T.l.length))) rfl (XB hTB) (WLF.yd (zn rfl) (Yd.lookB (y := kyT (Go.Ti.keyT (gt (allT T) k) m T.l.length)) kx ku Xz UnF.h ZvF.h (j := 6) rfl rfl rfl hMB) rfl (g [[2]] ?_));refine WCF.cond rfl (fun c61 => ?_) (fun c61 => ?_)
    · obtain ⟨hs1, hs2, hs3⟩ := Wd hv hk c61;refine g [[3]] ?_;refine WP.iterOnN hrec (h1 := [_, _, _, _]) zU1 zU2 (DExt.refl _ _) ⟨es, clock, ?_, ?_⟩
      · rw [hs1, hs2]
      rw [hs3]; exact hMB
    refine g [[3],[3,8,9,10,12,13]] ?_;refine WLF.know 63 (kvT (kyT (Go.Ti.keyT (gt (allT T) k) m T.l.length))) rfl (XB hTB) (WLF.so (zn rfl) (SO.putB (y := kyT (Go.Ti.keyT (gt (allT T) k) m T.l.length)) kx ku Xz UnF.h rfl rfl rfl (j := 6) rfl hMB) rfl ?_);rintro _ _ _ ⟨rfl, es1, clock1, rfl, hMB1⟩;refine g [[3],[5,9,10,12]] ?_;refine WCF.cond rfl (fun c65 => ?_) (fun c65 => ?_)
    · try simp only [zq] at c65
      obtain ⟨hs1, hs2⟩ := Ye hk c65;refine g [[4,10]] ?_;refine WP.iterOnN hrec (h1 := [_, _, _, _]) zU1 zU2 (DExt.refl _ _) ⟨es1, clock1, ?_, ?_⟩
      · rw [hs1, hs2]; rfl
      rw [vg hk]; exact hMB1
    try simp only [zq] at c65
    obtain ⟨q, hqn⟩ : ∃ q : Nat, nowI (gt (allT T) k) m T.l.length = (q : Int) := ⟨(nowI (gt (allT T) k) m T.l.length).toNat, by omega⟩;have hnn := vU (gt (allT T) k) m T.l.length;have hql : q < T.l.length := by omega
    obtain ⟨hs1, hs2⟩ := Yf hk hql hqn;have hw32 : whoN T m k < 32 := Nat.lt_of_lt_of_le (qB _ _) (Nat.pow_le_pow_right (by decide) h5);have hq32 : 2 ^ q < 32 := Nat.lt_of_lt_of_le (Nat.pow_lt_pow_right (by decide) hql) (Nat.pow_le_pow_right (by decide) h5);refine g [[0,9,12]] ?_;refine WCF.tail 3 [0, 1, 2] rfl zk zk (noLets.blk noLets.round) (g [[2]] ?_);refine WQ.know 67 (nt q) rfl (congrArg it hqn) (WQ.q rfl (Yd.qt (Yd.shlN (k := q) rfl rfl (by omega))) rfl ?_);refine WQ.tailR (WLF.so (zn rfl) (SO.buildSlice UnF.h SzF.h ZvF.h rfl rfl rfl rfl (cs := [_, _]) rfl) rfl ?_);rintro _ _ _ ⟨b69, hb69, rfl, rfl, rfl⟩;refine WLF.freezeN 0 b69 (.cells (List.toArray [nt (whoN T m k), nt (2 ^ q)]) 3 (0, 0)) rfl rfl hb69 (fun D69 hX69 h69 => ?_);refine WLF.cl rfl (fun w hI => Qf [whoN T m k, 2 ^ q] (some ⟨b69, 0, none⟩) 2 2 D69 _ (SlL.ofBlock (f := natC) (l := [whoN T m k, 2 ^ q]) (rest := []) (fun _ => rfl) h69) (by intro x hx; simp only [List.mem_cons, List.not_mem_nil, or_false] at hx; rcases hx with rfl | rfl; exact hw32; exact hq32) (by omega) hI.imm) ?_;refine WLF.know 70 (nt (whoN T m (k + 1))) rfl (by rw [← hs1]; show nt (orL [whoN T m k, 2 ^ q] 2) = _; simp [orL]) (g [[3]] ?_);refine WP.iterOnN hrec (h1 := [_, _, _, _]) zU1 zU2 hX69 ⟨es1, clock1, ?_, ?_⟩
    · rw [hs2]; rfl
    rw [vg hk]; exact hMB1
  · rintro Dn1 D6 _ hDn1 hX6 ⟨es, clock, rfl, hMB⟩;refine g [[3],[4,9,10,4,5,6]] ?_;refine WL.part 73 rfl (fun g73 => ?_) (fun g73 => ?_)
    · try simp only [zq] at g73
      refine g [[2]] ?_;refine WL.cl rfl (fun w hI => xp _ _) (g [[3],[0,9,10,4,5,6]] ?_);refine WC.drawP [_, _] (pz [1,3,4,6,8]) zk zk zX (fun _ hI => hI.tail.left (l1 := [_, _]) (l2 := [_, _])) (g [[2]] ?_);refine WA.so rfl (SO.ofYd (Yd.assign rfl)) rfl (zs ⟨fun _ hI => hI.tail.left (l1 := [_, _]) (l2 := [_, _]), ?_⟩);refine WA.so rfl (SO.ofYd (Yd.assign rfl)) rfl (zs ⟨fun _ hI => hI.tail.left (l1 := [_, _]) (l2 := [_, _]), ?_⟩);refine WA.so rfl (SO.store 4 rfl SzF.h rfl rfl rfl rfl (zqb rfl) (za rfl)) rfl ?_;rintro _ _ _ ⟨rfl, rfl, rfl⟩;refine ⟨fun _ hI => hI.tail.left (l1 := [_, _]) (l2 := [_, _]), ?_⟩;refine g [[3]] ?_;refine WP.retMsD [Dn1] [_, _, _, _] [_, _, _] [_, _, _] rfl rfl CaF.h (fun w hI => VW _ _) (fun _ h => h) (fun h => h) rfl zV (fun w hI => ⟨congrArg Ending.returned (by rw [hO0]; rfl), hI.keep⟩)
    try simp only [zq] at g73
    refine g [[2]] ?_;refine WL.part 75 rfl (fun g75 => ?_) (fun g75 => ?_)
    · refine WL.cl rfl (fun w hI => xp _ _) (g [[3],[0,9,10,4,5,6]] ?_);refine WC.drawP [_, _] (pz [1,3,4,6,8]) zk zk zX (fun _ hI => hI.tail.left (l1 := [_, _]) (l2 := [_, _])) (g [[2]] ?_);refine WA.so rfl (SO.ofYd (Yd.assign rfl)) rfl (zs ⟨fun _ hI => hI.tail.left (l1 := [_, _]) (l2 := [_, _]), ?_⟩);refine WA.so rfl (SO.ofYd (Yd.assign rfl)) rfl (zs ⟨fun _ hI => hI.tail.left (l1 := [_, _]) (l2 := [_, _]), ?_⟩);refine WA.so rfl (SO.store 4 rfl SzF.h rfl rfl rfl rfl (zqb rfl) (za rfl)) rfl ?_;rintro _ _ _ ⟨rfl, rfl, rfl⟩;refine ⟨fun _ hI => hI.tail.left (l1 := [_, _]) (l2 := [_, _]), ?_⟩;refine g [[3]] ?_;refine WP.retMsD [Dn1] [_, _, _, _] [_, _, _] [_, _, _] rfl rfl CaF.h (fun w hI => VW _ _) (fun _ h => h) (fun h => h) rfl zV (fun w hI => ⟨congrArg Ending.returned (by rw [hO0]; rfl), hI.keep⟩)
    exact (K9 hne (by omega) g75).elim
  exact fun _ _ _ _ _ _ h => h.elim
theorem Vo : z8 Tryz.prog 25 [.agg #[it T.huts, .slice a1 n1 c1], it m] w (.tuple #[it (zi T m).1, .bool (zi T m).2.1, it (zi T m).2.2]) := by
  cases hw : minT m with
  | false => exact KU T a1 n1 c1 D w hR hH hv m hw
  | true =>
    by_cases hne : allT T = []
    · exact KV T a1 n1 c1 D w hR hH hv m hw hne
    exact Qv T a1 n1 c1 D w hR hH hv m hw hne
end
end Go.Proofs.YtejgofaeafphjaaGreatDoor
