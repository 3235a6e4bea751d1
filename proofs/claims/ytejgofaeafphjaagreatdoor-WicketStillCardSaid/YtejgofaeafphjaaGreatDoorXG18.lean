import Derived.Shelf.Spec.TrailingZeros
import Derived.Shelf.Strconv.ErrVarAll
import Derived.Shelf.Strconv.Itoa0
import Derived.Shelf.Strconv.Itoa3
import Derived.Shelf.Strings.LastIndexAll
import Derived.Shelf.Strings.OnBuilder
import Derived.Shelf.Strings.Repeat
import Derived.Shelf.Strings.Replace
import Derived.Shelf.Strings.Search3
import Derived.Shelf.Strings.Split
import Derived.Shelf.Lays7
import Derived.Shelf.LaysM
import Derived.Shelf.LaysC
import Derived.Test.YtejgofaeafphjaaGreatDoorProg
import Derived.Test.YtejgofaeafphjaaGreatDoorXG17
import Derived.Test.YtejgofaeafphjaaGreatDoorXG4
import Derived.Test.YtejgofaeafphjaaGreatDoorXG16
import Derived.Test.YtejgofaeafphjaaGreatDoorXG7
set_option linter.all false
set_option maxRecDepth 100000
set_option maxHeartbeats 4000000
attribute [local irreducible] Go.W.WL Go.W.WLF Go.W.WC Go.W.WCF Go.W.WP Go.W.WA Go.W.WQ Go.W.WH Go.W.WHo Go.W.WCn Go.W.Yd Go.W.Qt Go.W.SO Go.Code.wp Go.Code.wpIn
namespace Go.Proofs.YtejgofaeafphjaaGreatDoor
open Go.Shelf
def ZK : Go.Shelf.Ren := ⟨fun | 171 => 62 | 243 => 144 | 246 => 217 | 283 => 266 | 284 => 267 | 285 => 268 | 286 => 269 | 129 => 233 | 317 => 291 | 318 => 292 | 319 => 293 | 320 => 294 | 337 => 306 | 338 => 232 | n => n, fun | 3 => 3 | 9 => 9 | 2 => 2 | 4 => 4 | 171 => 351 | 0 => 0 | 53 => 233 | 37 => 188 | 5 => 5 | 173 => 353 | 212 => 386 | 51 => 280 | 20 => 20 | 213 => 387 | 46 => 200 | 232 => 415 | 233 => 361 | n => n, fun | 17 => 7 | 18 => 10 | 19 => 6 | n => n⟩
theorem Jg : Go.Proofs.LaysM.n171 Tryz.prog ZK := {
  mixed := by kernel_rfl
  f129 := Tryz.func233.trans (congrArg some (by kernel_rfl))
  f171 := Tryz.func62.trans (congrArg some (by kernel_rfl))
  f243 := Tryz.func144.trans (congrArg some (by kernel_rfl))
  f246 := Tryz.func217.trans (congrArg some (by kernel_rfl))
  f283 := Tryz.func266.trans (congrArg some (by kernel_rfl))
  f284 := Tryz.func267.trans (congrArg some (by kernel_rfl))
  f285 := Tryz.func268.trans (congrArg some (by kernel_rfl))
  f286 := Tryz.func269.trans (congrArg some (by kernel_rfl))
  f317 := Tryz.func291.trans (congrArg some (by kernel_rfl))
  f318 := Tryz.func292.trans (congrArg some (by kernel_rfl))
  f319 := Tryz.func293.trans (congrArg some (by kernel_rfl))
  f320 := Tryz.func294.trans (congrArg some (by kernel_rfl))
  f337 := Tryz.func306.trans (congrArg some (by kernel_rfl))
  f338 := Tryz.func232.trans (congrArg some (by kernel_rfl))
  t0 := Tryz.underlying0
  a0 := Tryz.isAgg0
  z0 := Tryz.sizeOf0
  v0 := Tryz.zeroValue0
  t2 := Tryz.underlying2
  a2 := Tryz.isAgg2
  z2 := Tryz.sizeOf2
  v2 := Tryz.zeroValue2
  t3 := Tryz.underlying3
  a3 := Tryz.isAgg3
  z3 := Tryz.sizeOf3
  v3 := Tryz.zeroValue3
  t4 := Tryz.underlying4
  a4 := Tryz.isAgg4
  z4 := Tryz.sizeOf4
  v4 := Tryz.zeroValue4
  t5 := Tryz.underlying5
  a5 := Tryz.isAgg5
  z5 := Tryz.sizeOf5
  v5 := Tryz.zeroValue5
  t9 := Tryz.underlying9
  a9 := Tryz.isAgg9
  z9 := Tryz.sizeOf9
  v9 := Tryz.zeroValue9
  t20 := Tryz.underlying20
  a20 := Tryz.isAgg20
  z20 := Tryz.sizeOf20
  v20 := Tryz.zeroValue20
  t37 := Tryz.underlying188
  a37 := Tryz.isAgg188
  z37 := Tryz.sizeOf188
  v37 := Tryz.zeroValue188
  t46 := Tryz.underlying200
  a46 := Tryz.isAgg200
  z46 := Tryz.sizeOf200
  v46 := Tryz.zeroValue200
  t51 := Tryz.underlying280
  a51 := Tryz.isAgg280
  z51 := Tryz.sizeOf280
  v51 := Tryz.zeroValue280
  t53 := Tryz.underlying233
  a53 := Tryz.isAgg233
  z53 := Tryz.sizeOf233
  v53 := Tryz.zeroValue233
  t171 := Tryz.underlying351
  a171 := Tryz.isAgg351
  z171 := Tryz.sizeOf351
  v171 := Tryz.zeroValue351
  t173 := Tryz.underlying353
  a173 := Tryz.isAgg353
  z173 := Tryz.sizeOf353
  v173 := Tryz.zeroValue353
  t212 := Tryz.underlying386
  a212 := Tryz.isAgg386
  z212 := Tryz.sizeOf386
  v212 := Tryz.zeroValue386
  t213 := Tryz.underlying387
  a213 := Tryz.isAgg387
  z213 := Tryz.sizeOf387
  t232 := Tryz.underlying415
  a232 := Tryz.isAgg415
  z232 := Tryz.sizeOf415
  v232 := Tryz.zeroValue415
  t233 := Tryz.underlying361
  a233 := Tryz.isAgg361
  z233 := Tryz.sizeOf361
  v233 := Tryz.zeroValue361
  g17 := by kernel_rfl
  g18 := by kernel_rfl
  g19 := by kernel_rfl
  i0 := by kernel_rfl
  i2 := by kernel_rfl
  i3 := by kernel_rfl
  i4 := by kernel_rfl
  i5 := by kernel_rfl
  i9 := by kernel_rfl
  i20 := by kernel_rfl
  i37 := by kernel_rfl
  i46 := by kernel_rfl
  i51 := by kernel_rfl
  i53 := by kernel_rfl
  i171 := by kernel_rfl
  i173 := by kernel_rfl
  i212 := by kernel_rfl
  i232 := by kernel_rfl
  i233 := by kernel_rfl
  m17 := by kernel_rfl
  m18 := by kernel_rfl
  m19 := by kernel_rfl }
def ZJ : Go.Shelf.Ren := ⟨fun | 172 => 228 | 244 => 274 | 245 => 275 | 247 => 295 | 279 => 296 | 280 => 297 | 281 => 298 | 282 => 299 | 287 => 307 | 316 => 308 | 171 => 62 | 205 => 309 | 321 => 315 | 322 => 316 | 243 => 144 | 246 => 217 | 283 => 266 | 284 => 267 | 285 => 268 | 286 => 269 | 129 => 233 | 317 => 291 | 318 => 292 | 319 => 293 | 320 => 294 | 337 => 306 | 338 => 232 | n => n, fun | 9 => 9 | 3 => 3 | 75 => 193 | 76 => 194 | 4 => 4 | 5 => 5 | 167 => 389 | 37 => 188 | 0 => 0 | 85 => 390 | 2 => 2 | 168 => 392 | 53 => 233 | 175 => 406 | 46 => 200 | 210 => 409 | 127 => 276 | 145 => 419 | 143 => 417 | 21 => 21 | 171 => 351 | 173 => 353 | 212 => 386 | 51 => 280 | 20 => 20 | 213 => 387 | 232 => 415 | 233 => 361 | 80 => 197 | n => n, fun | 15 => 8 | 16 => 9 | 17 => 7 | 18 => 10 | 19 => 6 | n => n⟩
theorem ky : Go.Proofs.LaysC.n172 Tryz.prog ZJ := {
  mixed := by kernel_rfl
  f129 := Tryz.func233.trans (congrArg some (by kernel_rfl))
  f171 := Tryz.func62.trans (congrArg some (by kernel_rfl))
  f172 := Tryz.func228.trans (congrArg some (by kernel_rfl))
  f205 := Tryz.func309.trans (congrArg some (by kernel_rfl))
  f243 := Tryz.func144.trans (congrArg some (by kernel_rfl))
  f244 := Tryz.func274.trans (congrArg some (by kernel_rfl))
  f245 := Tryz.func275.trans (congrArg some (by kernel_rfl))
  f246 := Tryz.func217.trans (congrArg some (by kernel_rfl))
  f247 := Tryz.func295.trans (congrArg some (by kernel_rfl))
  f279 := Tryz.func296.trans (congrArg some (by kernel_rfl))
  f280 := Tryz.func297.trans (congrArg some (by kernel_rfl))
  f281 := Tryz.func298.trans (congrArg some (by kernel_rfl))
  f282 := Tryz.func299.trans (congrArg some (by kernel_rfl))
  f283 := Tryz.func266.trans (congrArg some (by kernel_rfl))
  f284 := Tryz.func267.trans (congrArg some (by kernel_rfl))
  f285 := Tryz.func268.trans (congrArg some (by kernel_rfl))
  f286 := Tryz.func269.trans (congrArg some (by kernel_rfl))
  f287 := Tryz.func307.trans (congrArg some (by kernel_rfl))
  f316 := Tryz.func308.trans (congrArg some (by kernel_rfl))
  f317 := Tryz.func291.trans (congrArg some (by kernel_rfl))
  f318 := Tryz.func292.trans (congrArg some (by kernel_rfl))
  f319 := Tryz.func293.trans (congrArg some (by kernel_rfl))
  f320 := Tryz.func294.trans (congrArg some (by kernel_rfl))
  f321 := Tryz.func315.trans (congrArg some (by kernel_rfl))
  f322 := Tryz.func316.trans (congrArg some (by kernel_rfl))
  f337 := Tryz.func306.trans (congrArg some (by kernel_rfl))
  f338 := Tryz.func232.trans (congrArg some (by kernel_rfl))
  t0 := Tryz.underlying0
  a0 := Tryz.isAgg0
  z0 := Tryz.sizeOf0
  v0 := Tryz.zeroValue0
  t2 := Tryz.underlying2
  a2 := Tryz.isAgg2
  z2 := Tryz.sizeOf2
  v2 := Tryz.zeroValue2
  t3 := Tryz.underlying3
  a3 := Tryz.isAgg3
  z3 := Tryz.sizeOf3
  v3 := Tryz.zeroValue3
  t4 := Tryz.underlying4
  a4 := Tryz.isAgg4
  z4 := Tryz.sizeOf4
  v4 := Tryz.zeroValue4
  t5 := Tryz.underlying5
  a5 := Tryz.isAgg5
  z5 := Tryz.sizeOf5
  v5 := Tryz.zeroValue5
  t9 := Tryz.underlying9
  a9 := Tryz.isAgg9
  z9 := Tryz.sizeOf9
  v9 := Tryz.zeroValue9
  t20 := Tryz.underlying20
  a20 := Tryz.isAgg20
  z20 := Tryz.sizeOf20
  v20 := Tryz.zeroValue20
  t21 := Tryz.underlying21
  a21 := Tryz.isAgg21
  z21 := Tryz.sizeOf21
  v21 := Tryz.zeroValue21
  t37 := Tryz.underlying188
  a37 := Tryz.isAgg188
  z37 := Tryz.sizeOf188
  v37 := Tryz.zeroValue188
  t46 := Tryz.underlying200
  a46 := Tryz.isAgg200
  z46 := Tryz.sizeOf200
  v46 := Tryz.zeroValue200
  t51 := Tryz.underlying280
  a51 := Tryz.isAgg280
  z51 := Tryz.sizeOf280
  v51 := Tryz.zeroValue280
  t53 := Tryz.underlying233
  a53 := Tryz.isAgg233
  z53 := Tryz.sizeOf233
  v53 := Tryz.zeroValue233
  t75 := Tryz.underlying193
  a75 := Tryz.isAgg193
  z75 := Tryz.sizeOf193
  v75 := Tryz.zeroValue193
  t76 := Tryz.underlying194
  a76 := Tryz.isAgg194
  z76 := Tryz.sizeOf194
  v76 := Tryz.zeroValue194
  t85 := Tryz.underlying390
  a85 := Tryz.isAgg390
  z85 := Tryz.sizeOf390
  v85 := Tryz.zeroValue390
  t127 := Tryz.underlying276
  a127 := Tryz.isAgg276
  z127 := Tryz.sizeOf276
  v127 := Tryz.zeroValue276
  t143 := Tryz.underlying417
  a143 := Tryz.isAgg417
  z143 := Tryz.sizeOf417
  v143 := Tryz.zeroValue417
  t145 := Tryz.underlying419
  a145 := Tryz.isAgg419
  z145 := Tryz.sizeOf419
  v145 := Tryz.zeroValue419
  t167 := Tryz.underlying389
  a167 := Tryz.isAgg389
  z167 := Tryz.sizeOf389
  v167 := Tryz.zeroValue389
  t168 := Tryz.underlying392
  a168 := Tryz.isAgg392
  z168 := Tryz.sizeOf392
  v168 := Tryz.zeroValue392
  t171 := Tryz.underlying351
  a171 := Tryz.isAgg351
  z171 := Tryz.sizeOf351
  v171 := Tryz.zeroValue351
  t173 := Tryz.underlying353
  a173 := Tryz.isAgg353
  z173 := Tryz.sizeOf353
  v173 := Tryz.zeroValue353
  t175 := Tryz.underlying406
  a175 := Tryz.isAgg406
  z175 := Tryz.sizeOf406
  v175 := Tryz.zeroValue406
  t210 := Tryz.underlying409
  a210 := Tryz.isAgg409
  z210 := Tryz.sizeOf409
  v210 := Tryz.zeroValue409
  t212 := Tryz.underlying386
  a212 := Tryz.isAgg386
  z212 := Tryz.sizeOf386
  v212 := Tryz.zeroValue386
  t213 := Tryz.underlying387
  a213 := Tryz.isAgg387
  z213 := Tryz.sizeOf387
  t232 := Tryz.underlying415
  a232 := Tryz.isAgg415
  z232 := Tryz.sizeOf415
  v232 := Tryz.zeroValue415
  t233 := Tryz.underlying361
  a233 := Tryz.isAgg361
  z233 := Tryz.sizeOf361
  v233 := Tryz.zeroValue361
  g15 := by kernel_rfl
  g16 := by kernel_rfl
  g17 := by kernel_rfl
  g18 := by kernel_rfl
  g19 := by kernel_rfl
  t80 := Tryz.underlying197
  a80 := Tryz.isAgg197
  z80 := Tryz.sizeOf197
  v80 := Tryz.zeroValue197
  i0 := by kernel_rfl
  i2 := by kernel_rfl
  i3 := by kernel_rfl
  i4 := by kernel_rfl
  i5 := by kernel_rfl
  i9 := by kernel_rfl
  i20 := by kernel_rfl
  i21 := by kernel_rfl
  i37 := by kernel_rfl
  i46 := by kernel_rfl
  i51 := by kernel_rfl
  i53 := by kernel_rfl
  i75 := by kernel_rfl
  i76 := by kernel_rfl
  i80 := by kernel_rfl
  i85 := by kernel_rfl
  i127 := by kernel_rfl
  i143 := by kernel_rfl
  i145 := by kernel_rfl
  i167 := by kernel_rfl
  i168 := by kernel_rfl
  i171 := by kernel_rfl
  i173 := by kernel_rfl
  i175 := by kernel_rfl
  i210 := by kernel_rfl
  i212 := by kernel_rfl
  i232 := by kernel_rfl
  i233 := by kernel_rfl
  m15 := by kernel_rfl
  m16 := by kernel_rfl
  m17 := by kernel_rfl
  m18 := by kernel_rfl
  m19 := by kernel_rfl
  c0 := by kernel_rfl
  c2 := by kernel_rfl
  c3 := by kernel_rfl
  c4 := by kernel_rfl
  c5 := by kernel_rfl
  c9 := by kernel_rfl
  c20 := by kernel_rfl
  c21 := by kernel_rfl
  c37 := by kernel_rfl
  c46 := by kernel_rfl
  c51 := by kernel_rfl
  c53 := by kernel_rfl
  c75 := by kernel_rfl
  c76 := by kernel_rfl
  c80 := by kernel_rfl
  c85 := by kernel_rfl
  c127 := by kernel_rfl
  c143 := by kernel_rfl
  c145 := by kernel_rfl
  c167 := by kernel_rfl
  c168 := by kernel_rfl
  c171 := by kernel_rfl
  c173 := by kernel_rfl
  c175 := by kernel_rfl
  c210 := by kernel_rfl
  c212 := by kernel_rfl
  c213 := by kernel_rfl
  c232 := by kernel_rfl
  c233 := by kernel_rfl }
def YG : Go.Shelf.Ren := ⟨fun | 146 => 72 | 221 => 150 | 268 => 221 | 138 => 137 | 143 => 136 | 195 => 207 | 197 => 138 | 218 => 208 | 219 => 206 | 260 => 209 | 217 => 261 | 225 => 262 | 224 => 263 | 267 => 264 | 266 => 289 | 314 => 290 | n => n, fun | 9 => 9 | 31 => 37 | 3 => 3 | 4 => 4 | 0 => 0 | 105 => 203 | 21 => 21 | 5 => 5 | 46 => 200 | 119 => 346 | 139 => 349 | 138 => 348 | 146 => 281 | 51 => 280 | n => n, fun | 1 => 1 | 3 => 4 | 4 => 5 | n => n⟩
theorem zay : Go.Proofs.Lays.n146 Tryz.prog YG := {
  mixed := by kernel_rfl
  f138 := Tryz.func137.trans (congrArg some (by kernel_rfl))
  f143 := Tryz.func136.trans (congrArg some (by kernel_rfl))
  f146 := Tryz.func72.trans (congrArg some (by kernel_rfl))
  f195 := Tryz.func207.trans (congrArg some (by kernel_rfl))
  f197 := Tryz.func138.trans (congrArg some (by kernel_rfl))
  f217 := Tryz.func261.trans (congrArg some (by kernel_rfl))
  f218 := Tryz.func208.trans (congrArg some (by kernel_rfl))
  f219 := Tryz.func206.trans (congrArg some (by kernel_rfl))
  f221 := Tryz.func150.trans (congrArg some (by kernel_rfl))
  f224 := Tryz.func263.trans (congrArg some (by kernel_rfl))
  f225 := Tryz.func262.trans (congrArg some (by kernel_rfl))
  f260 := Tryz.func209.trans (congrArg some (by kernel_rfl))
  f266 := Tryz.func289.trans (congrArg some (by kernel_rfl))
  f267 := Tryz.func264.trans (congrArg some (by kernel_rfl))
  f268 := Tryz.func221.trans (congrArg some (by kernel_rfl))
  f314 := Tryz.func290.trans (congrArg some (by kernel_rfl))
  t0 := Tryz.underlying0
  a0 := Tryz.isAgg0
  z0 := Tryz.sizeOf0
  v0 := Tryz.zeroValue0
  t3 := Tryz.underlying3
  a3 := Tryz.isAgg3
  z3 := Tryz.sizeOf3
  v3 := Tryz.zeroValue3
  t4 := Tryz.underlying4
  a4 := Tryz.isAgg4
  z4 := Tryz.sizeOf4
  v4 := Tryz.zeroValue4
  t5 := Tryz.underlying5
  a5 := Tryz.isAgg5
  z5 := Tryz.sizeOf5
  v5 := Tryz.zeroValue5
  t9 := Tryz.underlying9
  a9 := Tryz.isAgg9
  z9 := Tryz.sizeOf9
  v9 := Tryz.zeroValue9
  t21 := Tryz.underlying21
  a21 := Tryz.isAgg21
  z21 := Tryz.sizeOf21
  v21 := Tryz.zeroValue21
  t31 := Tryz.underlying37
  a31 := Tryz.isAgg37
  z31 := Tryz.sizeOf37
  v31 := Tryz.zeroValue37
  t46 := Tryz.underlying200
  a46 := Tryz.isAgg200
  z46 := Tryz.sizeOf200
  v46 := Tryz.zeroValue200
  t51 := Tryz.underlying280
  a51 := Tryz.isAgg280
  z51 := Tryz.sizeOf280
  v51 := Tryz.zeroValue280
  t105 := Tryz.underlying203
  a105 := Tryz.isAgg203
  z105 := Tryz.sizeOf203
  v105 := Tryz.zeroValue203
  t119 := Tryz.underlying346
  a119 := Tryz.isAgg346
  z119 := Tryz.sizeOf346
  t138 := Tryz.underlying348
  a138 := Tryz.isAgg348
  z138 := Tryz.sizeOf348
  v138 := Tryz.zeroValue348
  t139 := Tryz.underlying349
  a139 := Tryz.isAgg349
  z139 := Tryz.sizeOf349
  v139 := Tryz.zeroValue349
  t146 := Tryz.underlying281
  a146 := Tryz.isAgg281
  z146 := Tryz.sizeOf281
  v146 := Tryz.zeroValue281
  g1 := by kernel_rfl
  g3 := by kernel_rfl
  g4 := by kernel_rfl }
def qP : Go.Shelf.Ren := ⟨fun | 156 => 272 | 165 => 127 | 166 => 128 | 169 => 130 | 240 => 197 | 241 => 198 | 276 => 257 | 277 => 258 | n => n, fun | 31 => 37 | 9 => 9 | 3 => 3 | 4 => 4 | 0 => 0 | 20 => 20 | 72 => 190 | 76 => 194 | 70 => 187 | 37 => 188 | 75 => 193 | 127 => 276 | 164 => 339 | 5 => 5 | 80 => 197 | n => n, fun | n => n⟩
theorem U5 : Go.Proofs.Lays.n156 Tryz.prog qP := {
  mixed := by kernel_rfl
  f156 := Tryz.func272.trans (congrArg some (by kernel_rfl))
  f165 := Tryz.func127.trans (congrArg some (by kernel_rfl))
  f166 := Tryz.func128.trans (congrArg some (by kernel_rfl))
  f169 := Tryz.func130.trans (congrArg some (by kernel_rfl))
  f240 := Tryz.func197.trans (congrArg some (by kernel_rfl))
  f241 := Tryz.func198.trans (congrArg some (by kernel_rfl))
  f276 := Tryz.func257.trans (congrArg some (by kernel_rfl))
  f277 := Tryz.func258.trans (congrArg some (by kernel_rfl))
  t0 := Tryz.underlying0
  a0 := Tryz.isAgg0
  z0 := Tryz.sizeOf0
  v0 := Tryz.zeroValue0
  t3 := Tryz.underlying3
  a3 := Tryz.isAgg3
  z3 := Tryz.sizeOf3
  v3 := Tryz.zeroValue3
  t4 := Tryz.underlying4
  a4 := Tryz.isAgg4
  z4 := Tryz.sizeOf4
  v4 := Tryz.zeroValue4
  t9 := Tryz.underlying9
  a9 := Tryz.isAgg9
  z9 := Tryz.sizeOf9
  v9 := Tryz.zeroValue9
  t20 := Tryz.underlying20
  a20 := Tryz.isAgg20
  z20 := Tryz.sizeOf20
  v20 := Tryz.zeroValue20
  t31 := Tryz.underlying37
  a31 := Tryz.isAgg37
  z31 := Tryz.sizeOf37
  v31 := Tryz.zeroValue37
  t37 := Tryz.underlying188
  a37 := Tryz.isAgg188
  z37 := Tryz.sizeOf188
  v37 := Tryz.zeroValue188
  t70 := Tryz.underlying187
  a70 := Tryz.isAgg187
  z70 := Tryz.sizeOf187
  v70 := Tryz.zeroValue187
  t72 := Tryz.underlying190
  a72 := Tryz.isAgg190
  z72 := Tryz.sizeOf190
  v72 := Tryz.zeroValue190
  t75 := Tryz.underlying193
  a75 := Tryz.isAgg193
  z75 := Tryz.sizeOf193
  v75 := Tryz.zeroValue193
  t76 := Tryz.underlying194
  a76 := Tryz.isAgg194
  z76 := Tryz.sizeOf194
  v76 := Tryz.zeroValue194
  t127 := Tryz.underlying276
  a127 := Tryz.isAgg276
  z127 := Tryz.sizeOf276
  v127 := Tryz.zeroValue276
  t164 := Tryz.underlying339
  a164 := Tryz.isAgg339
  z164 := Tryz.sizeOf339
  v164 := Tryz.zeroValue339 }
def YF : Go.Shelf.Ren := ⟨fun | 129 => 233 | n => n, fun | 53 => 233 | 3 => 3 | 4 => 4 | 46 => 200 | 5 => 5 | 9 => 9 | n => n, fun | n => n⟩
theorem zax : Go.Proofs.Lays.n129 Tryz.prog YF := {
  mixed := by kernel_rfl
  f129 := Tryz.func233.trans (congrArg some (by kernel_rfl))
  t3 := Tryz.underlying3
  a3 := Tryz.isAgg3
  z3 := Tryz.sizeOf3
  v3 := Tryz.zeroValue3
  t4 := Tryz.underlying4
  a4 := Tryz.isAgg4
  z4 := Tryz.sizeOf4
  v4 := Tryz.zeroValue4
  t5 := Tryz.underlying5
  a5 := Tryz.isAgg5
  z5 := Tryz.sizeOf5
  v5 := Tryz.zeroValue5
  t9 := Tryz.underlying9
  a9 := Tryz.isAgg9
  z9 := Tryz.sizeOf9
  v9 := Tryz.zeroValue9
  t46 := Tryz.underlying200
  a46 := Tryz.isAgg200
  z46 := Tryz.sizeOf200
  v46 := Tryz.zeroValue200
  t53 := Tryz.underlying233
  a53 := Tryz.isAgg233
  z53 := Tryz.sizeOf233
  v53 := Tryz.zeroValue233 }
def YH : Go.Shelf.Ren := ⟨fun | 29 => 232 | n => n, fun | 22 => 233 | 3 => 3 | 4 => 4 | 25 => 200 | 54 => 361 | 0 => 0 | 5 => 5 | n => n, fun | 1 => 6 | n => n⟩
theorem zaz : Go.Proofs.Lays7.n29 Tryz.prog YH := {
  mixed := by kernel_rfl
  f29 := Tryz.func232.trans (congrArg some (by kernel_rfl))
  t0 := Tryz.underlying0
  a0 := Tryz.isAgg0
  z0 := Tryz.sizeOf0
  v0 := Tryz.zeroValue0
  i0 := by kernel_rfl
  t3 := Tryz.underlying3
  a3 := Tryz.isAgg3
  z3 := Tryz.sizeOf3
  v3 := Tryz.zeroValue3
  i3 := by kernel_rfl
  t4 := Tryz.underlying4
  a4 := Tryz.isAgg4
  z4 := Tryz.sizeOf4
  v4 := Tryz.zeroValue4
  i4 := by kernel_rfl
  t5 := Tryz.underlying5
  a5 := Tryz.isAgg5
  z5 := Tryz.sizeOf5
  v5 := Tryz.zeroValue5
  i5 := by kernel_rfl
  t22 := Tryz.underlying233
  a22 := Tryz.isAgg233
  z22 := Tryz.sizeOf233
  v22 := Tryz.zeroValue233
  i22 := by kernel_rfl
  t25 := Tryz.underlying200
  a25 := Tryz.isAgg200
  z25 := Tryz.sizeOf200
  v25 := Tryz.zeroValue200
  i25 := by kernel_rfl
  t54 := Tryz.underlying361
  a54 := Tryz.isAgg361
  z54 := Tryz.sizeOf361
  g1 := by kernel_rfl }
end Go.Proofs.YtejgofaeafphjaaGreatDoor
namespace Go.Proofs.YtejgofaeafphjaaGreatDoor
open Go.W Go.Ti
theorem zdj {P : Program} {name : String} {w : World} {n : Nat} {cs : Array Value} {t : TypeId} {fz : Nat × Nat} (hg : P.globalNamed name = some n) (h : w.heap[n]? = some (.cells cs t fz)) : w.var? P name = some cs := by
  unfold World.var?;rw [hg];simp [h]
def tabV : List Value := Lib.deBruijn64tab.map fun (n : Nat) => Value.int .u8 (n : Int)
structure LibW (D : Imm) : Prop where
  done : ux D
  ents : ∃ t fz, D 0 = some (.cells (List.toArray [st [], st payS, st xw, st xE]) t fz)
  maxLen : ∃ (m : Int) (r : List Value) (t : TypeId) (fz : Nat × Nat), D 1 = some (.cells (List.toArray (it m :: r)) t fz)
  syn : ∃ (tp : TypeId) (p : Value) (t : TypeId) (fz : Nat × Nat), D 8 = some (.cells (List.toArray [.iface tp p]) t fz)
  rng : ∃ (tp : TypeId) (p : Value) (t : TypeId) (fz : Nat × Nat), D 9 = some (.cells (List.toArray [.iface tp p]) t fz)
  pow : ∃ t fz, D 7 = some (.cells (Lib.pow10Tab.map fun z => Value.int .u64 z).toArray t fz)
  tab : ∃ t fz, D 6 = some (.cells (List.toArray tabV) t fz)
theorem LibW.ext {w : World} {D D' : Imm} (hD : DExt w D D') (h : LibW D) : LibW D' :=
  ⟨h.done.ext hD, let ⟨t, fz, e⟩ := h.ents; ⟨t, fz, hD.old _ _ e⟩, let ⟨m, r, t, fz, e⟩ := h.maxLen; ⟨m, r, t, fz, hD.old _ _ e⟩, let ⟨a, b, t, fz, e⟩ := h.syn; ⟨a, b, t, fz, hD.old _ _ e⟩, let ⟨a, b, t, fz, e⟩ := h.rng; ⟨a, b, t, fz, hD.old _ _ e⟩, let ⟨t, fz, e⟩ := h.pow; ⟨t, fz, hD.old _ _ e⟩, let ⟨t, fz, e⟩ := h.tab; ⟨t, fz, hD.old _ _ e⟩⟩
theorem LibW.max {D : Imm} (h : LibW D) {w : World} (hH : Holds D w) : ∃ m : Int, w.cell? ⟨1, 0, none⟩ = some (.int .i64 m) := by
  obtain ⟨m, r, t, fz, e⟩ := h.maxLen;exact ⟨m, by have := hH _ _ e; simp [World.cell?, this]⟩
theorem cell0 {D : Imm} {g : Nat} {v : Value} {r : List Value} {t : TypeId} {fz : Nat × Nat} (e : D g = some (.cells (List.toArray (v :: r)) t fz)) {w : World} (hH : Holds D w) : w.cell? ⟨g, 0, none⟩ = some v := by
  have := hH _ _ e;simp [World.cell?, this]
theorem tz_g (x : Nat) (hx : x < 2 ^ 61) (D : Imm) (hL : LibW D) (w : World) (hH : Holds D w) : z8 Tryz.prog 232 [ut x] w (nt (Lib.ctz 64 x)) := by
  obtain ⟨t, fz, e⟩ := hL.tab;refine (Any7.bits_TrailingZeros64 zaz x (Nat.lt_trans hx (by decide)) w (fun _ j hj => ?_)).mono fun e' w' ⟨h1, h2⟩ => ⟨h1, h2 ▸ Keep.refl _ _⟩;have := hH _ _ e
  show w.cell? ⟨6, j, none⟩ = _;simp [World.cell?, this, tabV, hj]
theorem zaA (x : Nat) (hx : x < 2 ^ 61) (w : World) : z8 Tryz.prog 233 [ut x] w (nt (Lib.bitLen x)) := by
  refine (Any.bits_Len64 zax (x : Int) w (by omega) (by omega)).mono fun e' w' ⟨h1, h2⟩ => ⟨by simpa using h1, h2 ▸ Keep.refl _ _⟩
def i64B (n : Int) : Prop := -9223372036854775808 ≤ n ∧ n ≤ 9223372036854775807
theorem Xw (n : Int) (hn : i64B n) (D : Imm) (hL : LibW D) (w : World) (hH : Holds D w) : z8 Tryz.prog 62 [it n] w (st (Lib.itoa n)) := by
  obtain ⟨t, fz, e⟩ := hL.pow;exact (Any.strconv_Itoa Jg n hn.1 hn.2 w (zdj zk (hH _ _ e))).mono fun e' w' ⟨h1, k, os, h2⟩ => ⟨h1, h2 ▸ Keep.grow w k os⟩
theorem za0 (s : Bs) (hs : s.length ≤ 2 ^ 40) (v : Int) (h : Lib.atoiAll s = .ok v) (w : World) : z8 Tryz.prog 228 [st s] w (.tuple #[it v, .nilIface]) :=
  (Any.strconv_Atoi_ok ky ⟨s.toArray⟩ (by rw [wk]; omega) v h w).mono fun e' w' ⟨h1, h2⟩ => ⟨h1, by
    rcases h2 with rfl | ⟨t, rfl⟩
    · exact Keep.refl _ _
    exact Keep.of_below (Lib.bytesWorld_below w _ _)⟩
theorem KZ (s : Bs) (hs : s.length ≤ 2 ^ 40) (h : ∀ v, Lib.atoiAll s ≠ .ok v) (D : Imm) (hL : LibW D) (w : World) (hH : Holds D w) : News Tryz.prog 228 [st s] w D (fun v _ h' => h' = [] ∧ ∃ z tt p, v = .tuple #[it z, .iface tt p]) := by
  have fin : ∀ {w' : World}, RowKit.Below w.heap.size w w' → Inv D [] [] w w' := fun hb => (Inv.start hH).call (Keep.of_below hb);rcases e : Lib.atoiAll s with v | _ | _
  · exact absurd e (h v)
  · obtain ⟨tp, p, t, fz, e2⟩ := hL.syn;exact (Any.strconv_Atoi_syntax ky ⟨s.toArray⟩ (by rw [wk]; omega) e (.iface tp p) w (cell0 e2 hH) (.inr ⟨_, _, rfl⟩)).mono fun e' w' ⟨N, h1, _, _, h4⟩ => ⟨_, D, [], h1, DExt.refl _ _, fin h4, rfl, _, _, _, rfl⟩
  obtain ⟨tp, p, t, fz, e2⟩ := hL.rng;exact (Any.strconv_Atoi_range ky ⟨s.toArray⟩ (by rw [wk]; omega) e (.iface tp p) w (cell0 e2 hH) (.inr ⟨_, _, rfl⟩)).mono fun e' w' ⟨N, h1, _, _, h4⟩ => ⟨_, D, [], h1, DExt.refl _ _, fin h4, rfl, _, _, _, rfl⟩
theorem zdp : Builder.Extra Tryz.prog qP := ⟨⟨by kernel_rfl, by kernel_rfl⟩, Tryz.underlying5, Tryz.isAgg5, Tryz.sizeOf5, Tryz.zeroValue5, by kernel_rfl, by kernel_rfl, by kernel_rfl, by decide⟩
theorem Kt (l : List Bs) (a : Option Addr) (n c : Nat) (D : Imm) (hS : SlL D 1 (l.map fun p => [st p]) a n) (hn : n ≤ 1000) (hc : n ≤ c) (hlen : (Lib.join l [32]).length ≤ 100000) (w : World) (hH : Holds D w) : z8 Tryz.prog 272 [.slice a n c, st [32]] w (st (Lib.join l [32])) := by
  obtain rfl := hS.len';have hm : ((l.map fun p => (⟨p.toArray⟩ : ByteArray)).map (·.data.toList)) = l := by rw [List.map_map]; exact List.map_id'' (fun _ => rfl) l
  cases l with
  | nil =>
    refine (Any.strings_Join_none U5 zdp a c ⟨List.toArray [32]⟩ w).mono fun e' w' ⟨h1, h2⟩ => ⟨h1, h2 ▸ Keep.refl _ _⟩
  | cons x l =>
    have ha := hS.addr 0 (by simp);rw [ha]
    have hcell : ∀ (j : Nat) y, ((x :: l).map fun p => (⟨p.toArray⟩ : ByteArray))[j]? = some y → w.cell? ⟨sb a, so a + j, none⟩ = some (.string y) := fun j y hj => by
      have hjl : j < (x :: l).length := by
        rcases Nat.lt_or_ge j (x :: l).length with h | h
        · exact h
        rw [List.getElem?_eq_none (by rw [List.length_map]; exact h)] at hj; cases hj
      have hr := (hS.at (f := fun p => [st p]) j hjl).rd (hp := []) 0 rfl [] w w (Inv.start hH);rw [Nat.mul_one, Nat.add_zero] at hr;rw [hr];rw [List.getElem?_map, wX hjl] at hj;cases hj; rfl
    have hbk : sb a < w.heap.size := by
      have := hcell 0 ⟨x.toArray⟩ rfl;unfold World.cell? at this;rcases Nat.lt_or_ge (sb a) w.heap.size with h | h
      · exact h
      simp [Array.getElem?_eq_none h] at this
    have hl2 : (Lib.join (((x :: l).map fun p => (⟨p.toArray⟩ : ByteArray)).map (·.data.toList)) (⟨List.toArray [32]⟩ : ByteArray).data.toList).length ≤ 140737488355328 := by rw [hm]; exact Nat.le_trans hlen (by decide)
    have := Any.strings_Join U5 zdp (sb a) (so a) c ((x :: l).map fun p => (⟨p.toArray⟩ : ByteArray)) ⟨List.toArray [32]⟩ w hcell hbk (by rw [List.length_map]; omega) (by rw [List.length_map]; exact hc) hl2;rw [List.length_map, hm] at this;exact this.mono fun e' w' ⟨h1, h2⟩ => ⟨h1, Keep.of_below h2⟩
theorem KC (T : Tide) (h : Hts) {j : Nat} (hj : j < 4) : (tdC T h)[0 + 4 + j * 1]? = some (if j < T.sand.length then ut (setU T h j) else ut 0) := by
  rcases (show j = 0 ∨ j = 1 ∨ j = 2 ∨ j = 3 by omega) with rfl | rfl | rfl | rfl <;> rfl
theorem zdd {T : Tide} (hT : zG T) {h : Hts} (hh : h ∈ tdL T) : HtB h := fun i => by
  have h1 := (qZ.1 hh).1;rcases Nat.lt_or_ge i T.marks.length with hi | hi
  · exact h1.high hT i hi
  rw [h1.rest i hi]; omega
theorem zck (T : Tide) (hT : zG T) (h : Hts) (p : Nat) (hp : p < T.sand.length) (hne : setL T h p ≠ []) (D : Imm) (hL : LibW D) (w : World) (hH : Holds D w) : z8 Tryz.prog 169 [ut (setU T h p)] w (.tuple #[it (uZ (setL T h p)), it (u7 (setL T h p))]) := by
  unfold z8;obtain ⟨he1, he2, he3, he4⟩ := UK hT hp hne;refine en Tryz.func169 rfl Tryz.ntmps169 (Inv.start hH) (g [[1],[6,0],[2,3,2,0]] ?_);refine WL.cl rfl (fun w hI => tz_g _ he1 D hL _ hI.imm) (g [[1]] ?_);refine WL.cl rfl (fun w hI => zaA _ he1 _) ?_;have hb64 : Lib.bitLen (setU T h p) ≤ 64 := Lib.bitLen_le _ 64 (by omega) (Nat.lt_trans he1 (by decide));refine g [[6]] ?_;refine WP.ret2 rfl rfl rfl (RV.tmp rfl) (RV.tmp rfl) (fun w hI => ⟨congrArg Ending.returned (by rw [← he3, ← he4]), hI.keep⟩)
theorem QN (T : Tide) (a1 a2 a3 : Option Addr) (n1 n2 n3 c1 c2 c3 : Nat) (D : Imm) (w : World) (hR : yo D T a1 n1 a2 n2 a3 n3) (qb mb : Nat) (hq : D qb = some (shoO (.slice a1 n1 c1) (.slice a2 n2 c2) (.slice a3 n3 c3) mb)) (hH : Holds D w) (hT : zG T) (hL : LibW D) (p : Nat) (hp : p < T.sand.length) (m : Int) (hm : zx T m = true) (bs bm bp : Nat) (h1 : D bs = some (.cells (List.toArray [pt qb]) 134 (0, 0))) (h2 : D bm = some (.cells (List.toArray [it m]) 3 (0, 0))) (h3 : D bp = some (.cells (List.toArray [nt p]) 3 (0, 0))) : CloD T mb D (tdL T) 167 [pt bs, pt bm, pt bp] (Zp T p m) := by
  obtain rfl := hR.mark.len';obtain rfl := hR.sand.len';obtain rfl := hR.look.len';obtain ⟨hl1, hl2, hl3⟩ := hR.len;refine ⟨CaF.h, fun h hhL w hM hMM hI0 => ?_⟩;obtain ⟨es, clock, F, rfl, hMR, hFK⟩ := hMM;have hh := zdd hT hhL;have hne := (qZ.1 hhL).2 p hp;have hsn := uO hT (h := h) (fun i _ => hh i) hm;obtain ⟨ge1, ge2, _⟩ := kS hne;have gn1 := kT hT hp ge1;have gn2 := kT hT hp ge2;have hns := hT.ns;have hcell : (tdC T h)[0 + 4 + (p : Int).toNat * 1]? = some (ut (setU T h p)) := by rw [Int.toNat_natCast, KC T h (by omega), if_pos hp]
  unfold zp;refine en Tryz.func167 rfl Tryz.ntmps167 hI0 (g [[1],[1,0,1,2,3]] ?_);refine WL.so (SO.box rfl rfl) rfl (zw fun b4 hb4 => ?_);refine g [[5],[5,6,5,4,1,2,3]] ?_;refine WL.know 12 (htV h) rfl rfl (WL.so (SO.altersN (own := [_]) (hpc := [(mb, .map es clock)]) (S1 := [mb]) (fun _ h => h) (fun h => h) (fun _ h => h) (fun _ h => h) (Enters.func CaF.h rfl) (fun w1 hI => qx T a1 a2 a3 _ _ _ c1 c2 c3 D w1 hR qb mb hq hI.imm hT hL.done h m hh hm es clock F hMR hFK hI)) rfl ?_);rintro _ _ _ ⟨hp3, _, ⟨rfl, rfl, hMM2⟩, rfl⟩;refine g [[4],[3,7,6,5,4,3]] ?_;refine WL.yd (Yd.indexA UnF.h SzF.h rfl rfl (by omega) (by omega)) rfl (WL.yd (Yd.l1 rfl (Rd.own (k := 0) rfl hcell)) rfl ?_);refine WL.cl rfl (fun w hI => zck T hT h p hp hne _ hL _ hI.imm) (g [[8],[4,9,8,7,6,5]] ?_);refine WL.yd (Yd.max2 rfl rfl) rfl (g [[3]] ?_);refine WL.yd (Yd.max2 rfl rfl) rfl (g [[5]] ?_);refine WP.ret2 rfl rfl rfl (RV.tmp rfl) (RV.tmp rfl) (fun w1 hI => ⟨_, _, _, rfl, DExt.refl _ _, hI.drop 1, rfl, rfl, hMM2⟩)
theorem Vx (T : Tide) (a1 a2 a3 : Option Addr) (n1 n2 n3 c1 c2 c3 : Nat) (D : Imm) (w : World) (hR : yo D T a1 n1 a2 n2 a3 n3) (qb mb : Nat) (hq : D qb = some (shoO (.slice a1 n1 c1) (.slice a2 n2 c2) (.slice a3 n3 c3) mb)) (hH : Holds D w) (hT : zG T) (hL : LibW D) (p : Nat) (hp : p < T.sand.length) (m : Int) (hm : zx T m = true) (al : Option Addr) (cl : Nat) (hS : SlL D 8 ((tdL T).map (tdC T)) al (tdL T).length) (hM : Hp) (hMM : MapK T mb hM) (hI0 : Inv D hM [mb] w w) : zp Tryz.prog 84 [pt qb, .slice al (tdL T).length cl, nt p, it m] w D [mb] (fun v D' hp' => v = .agg #[it (xY T p m).lo, it (xY T p m).hi] ∧ MapK T mb hp') := by
  unfold zp;obtain rfl := hR.mark.len';obtain rfl := hR.sand.len';obtain rfl := hR.look.len';obtain ⟨hl1, hl2, hl3⟩ := hR.len;obtain ⟨es, clock, F, rfl, hMR, hFK⟩ := hMM;refine en Tryz.func84 rfl Tryz.ntmps84 hI0 (g [[1],[1,0,1,2,3]] ?_);refine WL.so (SO.box rfl rfl) rfl (zw fun b4 hb4 => ?_);refine WL.so (SO.box rfl rfl) rfl (zw fun b6 hb6 => ?_);refine WL.so (SO.box rfl rfl) rfl (zw fun b7 hb7 => ?_);refine WL.so (SO.alloc ZvF.h rfl) rfl (zw fun b8 hb8 => ?_);refine g [[3]] ?_;refine WC.freezeN 1 b7 (.cells (List.toArray [it m]) 3 (0, 0)) rfl rfl hb7 (fun D1 hX1 h7 => ?_);replace hR := hR.ext hX1;replace hq := hX1.old _ _ hq;replace hL := hL.ext hX1;replace hS := hS.ext hX1;refine WC.freezeN 1 b6 (.cells (List.toArray [nt p]) 3 (0, 0)) rfl rfl hb6 (fun D2 hX2 h6 => ?_);replace hR := hR.ext hX2;replace hq := hX2.old _ _ hq;replace hL := hL.ext hX2;replace hS := hS.ext hX2;replace h7 := hX2.old _ _ h7;refine WC.freezeN 1 b4 (.cells (List.toArray [pt qb]) 134 (0, 0)) rfl rfl hb4 (fun D3 hX3 h4 => ?_);replace hR := hR.ext hX3;replace hq := hX3.old _ _ hq;replace hL := hL.ext hX3;replace hS := hS.ext hX3;replace h7 := hX3.old _ _ h7;replace h6 := hX3.old _ _ h6;have hX := (hX1.trans hX2 (Nat.le_refl _)).trans hX3 (Nat.le_refl _);refine g [[3,8,7,6,4,1]] ?_;refine WL.so (SO.altersN (own := [_]) (hpc := [(mb, .map es clock)]) (S1 := [mb]) (fun _ h => h) (fun h => h) (fun _ h => h) (fun _ h => h) (Enters.func CaF.h rfl) (fun w1 hI => zbe T mb (tdL T) 167 [pt b4, pt b7, pt b6] (Zp T p m) D3 (QN T a1 a2 a3 _ _ _ c1 c2 c3 D3 w1 hR qb mb hq hI.imm hT hL p hp m hm b4 b7 b6 h4 h7 h6) al _ cl hS (by have := Q0 hT; omega) [(mb, .map es clock)] ⟨es, clock, F, rfl, hMR, hFK⟩ w1 hI)) rfl ?_;rintro _ _ _ ⟨hp3, _, ⟨rfl, rfl, hMM2⟩, rfl⟩;refine g [[4]] ?_;refine WP.ret1 rfl rfl rfl (RV.cellN AgF.h SzF.h rfl (vs := [_, _]) rfl (RdN.own (k := 0) (n := 2) rfl rfl)) (fun w1 hI => ⟨_, _, _, rfl, hX, hI.drop 1, rfl, hMM2⟩)
end Go.Proofs.YtejgofaeafphjaaGreatDoor
