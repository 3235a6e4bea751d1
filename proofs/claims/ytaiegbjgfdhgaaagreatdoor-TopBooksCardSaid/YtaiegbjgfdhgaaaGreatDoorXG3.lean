import Derived.Shelf.Small.Wraps
import Derived.Shelf.Spec.TrailingZeros
import Derived.Shelf.Strconv.ErrVarAll
import Derived.Shelf.Strconv.Itoa0
import Derived.Shelf.Strconv.Itoa3
import Derived.Shelf.Strings.Cut
import Derived.Shelf.Strings.Prefix
import Derived.Shelf.Strings.SlTrimAscii
import Derived.Shelf.Strings.Split
import Derived.Shelf.Lays7
import Derived.Shelf.LaysM
import Derived.Shelf.LaysC
import Derived.Test.YtaiegbjgfdhgaaaGreatDoorProg
import Derived.Lib.ItoaNum
import Derived.Lib.AtoiAll
import Derived.Lib.IndexMore
import Derived.Lib.SlTrimSet
import Derived.Lib.SplitLaws
import Derived.Lib.Strings
import Derived.Test.YtaiegbjgfdhgaaaGreatDoorXG0
import Derived.Test.YtaiegbjgfdhgaaaGreatDoorRows
import Derived.Test.YtaiegbjgfdhgaaaGreatDoorXG2
set_option linter.all false
set_option maxRecDepth 100000
set_option maxHeartbeats 4000000
attribute [local irreducible] Go.W.WL Go.W.WLF Go.W.WC Go.W.WCF Go.W.WP Go.W.WA Go.W.WQ Go.W.WH Go.W.WHo Go.W.WCn Go.W.Yd Go.W.Qt Go.W.SO Go.Code.wp Go.Code.wpIn
namespace Go.Proofs.YtaiegbjgfdhgaaaGreatDoor
open Go.Shelf
def zrX : Go.Shelf.Ren := ⟨fun | 161 => 189 | 231 => 220 | 227 => 193 | 233 => 221 | 235 => 222 | 228 => 225 | 197 => 246 | 151 => 227 | 260 => 266 | 152 => 252 | 137 => 224 | 119 => 269 | 224 => 249 | 225 => 248 | 217 => 247 | 266 => 267 | n => n, fun | 9 => 9 | 4 => 4 | 3 => 3 | 5 => 5 | 117 => 319 | 116 => 318 | 0 => 0 | 124 => 322 | 105 => 369 | 21 => 21 | 119 => 431 | 46 => 96 | 139 => 434 | 138 => 433 | n => n, fun | 3 => 7 | 4 => 8 | n => n⟩
theorem zyJ : Go.Proofs.Lays.n161 Tryz.prog zrX := {
  mixed := by kernel_rfl
  f119 := Tryz.func269.trans (congrArg some (by kernel_rfl))
  f137 := Tryz.func224.trans (congrArg some (by kernel_rfl))
  f151 := Tryz.func227.trans (congrArg some (by kernel_rfl))
  f152 := Tryz.func252.trans (congrArg some (by kernel_rfl))
  f161 := Tryz.func189.trans (congrArg some (by kernel_rfl))
  f197 := Tryz.func246.trans (congrArg some (by kernel_rfl))
  f217 := Tryz.func247.trans (congrArg some (by kernel_rfl))
  f224 := Tryz.func249.trans (congrArg some (by kernel_rfl))
  f225 := Tryz.func248.trans (congrArg some (by kernel_rfl))
  f227 := Tryz.func193.trans (congrArg some (by kernel_rfl))
  f228 := Tryz.func225.trans (congrArg some (by kernel_rfl))
  f231 := Tryz.func220.trans (congrArg some (by kernel_rfl))
  f233 := Tryz.func221.trans (congrArg some (by kernel_rfl))
  f235 := Tryz.func222.trans (congrArg some (by kernel_rfl))
  f260 := Tryz.func266.trans (congrArg some (by kernel_rfl))
  f266 := Tryz.func267.trans (congrArg some (by kernel_rfl))
  t0 := Tryz.underlying0
  a0 := Tryz.isAgg0
  z0 := Tryz.sizeOf0
  v0 := Tryz.zeroValue0
  t3 := Tryz.underlying3
  a3 := Tryz.isAgg3
  z3 := Tryz.sizeOf3
  v3 := Tryz.zeroValue3
  t4 := Tryz.underlying4
  a4 := Tryz.isAgg4
  z4 := Tryz.sizeOf4
  v4 := Tryz.zeroValue4
  t5 := Tryz.underlying5
  a5 := Tryz.isAgg5
  z5 := Tryz.sizeOf5
  v5 := Tryz.zeroValue5
  t9 := Tryz.underlying9
  a9 := Tryz.isAgg9
  z9 := Tryz.sizeOf9
  v9 := Tryz.zeroValue9
  t21 := Tryz.underlying21
  a21 := Tryz.isAgg21
  z21 := Tryz.sizeOf21
  v21 := Tryz.zeroValue21
  t46 := Tryz.underlying96
  a46 := Tryz.isAgg96
  z46 := Tryz.sizeOf96
  v46 := Tryz.zeroValue96
  t105 := Tryz.underlying369
  a105 := Tryz.isAgg369
  z105 := Tryz.sizeOf369
  v105 := Tryz.zeroValue369
  t116 := Tryz.underlying318
  a116 := Tryz.isAgg318
  z116 := Tryz.sizeOf318
  t117 := Tryz.underlying319
  a117 := Tryz.isAgg319
  z117 := Tryz.sizeOf319
  v117 := Tryz.zeroValue319
  t119 := Tryz.underlying431
  a119 := Tryz.isAgg431
  z119 := Tryz.sizeOf431
  t124 := Tryz.underlying322
  a124 := Tryz.isAgg322
  z124 := Tryz.sizeOf322
  v124 := Tryz.zeroValue322
  t138 := Tryz.underlying433
  a138 := Tryz.isAgg433
  z138 := Tryz.sizeOf433
  v138 := Tryz.zeroValue433
  t139 := Tryz.underlying434
  a139 := Tryz.isAgg434
  z139 := Tryz.sizeOf434
  v139 := Tryz.zeroValue434
  g3 := by kernel_rfl
  g4 := by kernel_rfl }
def zrY : Go.Shelf.Ren := ⟨fun | 162 => 143 | 232 => 192 | 227 => 193 | 234 => 194 | 236 => 195 | 228 => 225 | 271 => 226 | 151 => 227 | 120 => 251 | 197 => 246 | 152 => 252 | 260 => 266 | 137 => 224 | 119 => 269 | 224 => 249 | 225 => 248 | 217 => 247 | 266 => 267 | n => n, fun | 9 => 9 | 4 => 4 | 3 => 3 | 5 => 5 | 117 => 319 | 116 => 318 | 0 => 0 | 124 => 322 | 21 => 21 | 105 => 369 | 46 => 96 | 119 => 431 | 139 => 434 | 138 => 433 | n => n, fun | 3 => 7 | 4 => 8 | n => n⟩
theorem zyK : Go.Proofs.Lays.n162 Tryz.prog zrY := {
  mixed := by kernel_rfl
  f119 := Tryz.func269.trans (congrArg some (by kernel_rfl))
  f120 := Tryz.func251.trans (congrArg some (by kernel_rfl))
  f137 := Tryz.func224.trans (congrArg some (by kernel_rfl))
  f151 := Tryz.func227.trans (congrArg some (by kernel_rfl))
  f152 := Tryz.func252.trans (congrArg some (by kernel_rfl))
  f162 := Tryz.func143.trans (congrArg some (by kernel_rfl))
  f197 := Tryz.func246.trans (congrArg some (by kernel_rfl))
  f217 := Tryz.func247.trans (congrArg some (by kernel_rfl))
  f224 := Tryz.func249.trans (congrArg some (by kernel_rfl))
  f225 := Tryz.func248.trans (congrArg some (by kernel_rfl))
  f227 := Tryz.func193.trans (congrArg some (by kernel_rfl))
  f228 := Tryz.func225.trans (congrArg some (by kernel_rfl))
  f232 := Tryz.func192.trans (congrArg some (by kernel_rfl))
  f234 := Tryz.func194.trans (congrArg some (by kernel_rfl))
  f236 := Tryz.func195.trans (congrArg some (by kernel_rfl))
  f260 := Tryz.func266.trans (congrArg some (by kernel_rfl))
  f266 := Tryz.func267.trans (congrArg some (by kernel_rfl))
  f271 := Tryz.func226.trans (congrArg some (by kernel_rfl))
  t0 := Tryz.underlying0
  a0 := Tryz.isAgg0
  z0 := Tryz.sizeOf0
  v0 := Tryz.zeroValue0
  t3 := Tryz.underlying3
  a3 := Tryz.isAgg3
  z3 := Tryz.sizeOf3
  v3 := Tryz.zeroValue3
  t4 := Tryz.underlying4
  a4 := Tryz.isAgg4
  z4 := Tryz.sizeOf4
  v4 := Tryz.zeroValue4
  t5 := Tryz.underlying5
  a5 := Tryz.isAgg5
  z5 := Tryz.sizeOf5
  v5 := Tryz.zeroValue5
  t9 := Tryz.underlying9
  a9 := Tryz.isAgg9
  z9 := Tryz.sizeOf9
  v9 := Tryz.zeroValue9
  t21 := Tryz.underlying21
  a21 := Tryz.isAgg21
  z21 := Tryz.sizeOf21
  v21 := Tryz.zeroValue21
  t46 := Tryz.underlying96
  a46 := Tryz.isAgg96
  z46 := Tryz.sizeOf96
  v46 := Tryz.zeroValue96
  t105 := Tryz.underlying369
  a105 := Tryz.isAgg369
  z105 := Tryz.sizeOf369
  v105 := Tryz.zeroValue369
  t116 := Tryz.underlying318
  a116 := Tryz.isAgg318
  z116 := Tryz.sizeOf318
  t117 := Tryz.underlying319
  a117 := Tryz.isAgg319
  z117 := Tryz.sizeOf319
  v117 := Tryz.zeroValue319
  t119 := Tryz.underlying431
  a119 := Tryz.isAgg431
  z119 := Tryz.sizeOf431
  t124 := Tryz.underlying322
  a124 := Tryz.isAgg322
  z124 := Tryz.sizeOf322
  v124 := Tryz.zeroValue322
  t138 := Tryz.underlying433
  a138 := Tryz.isAgg433
  z138 := Tryz.sizeOf433
  v138 := Tryz.zeroValue433
  t139 := Tryz.underlying434
  a139 := Tryz.isAgg434
  z139 := Tryz.sizeOf434
  v139 := Tryz.zeroValue434
  g3 := by kernel_rfl
  g4 := by kernel_rfl }
def zrV : Go.Shelf.Ren := ⟨fun | 137 => 224 | 217 => 247 | 266 => 267 | n => n, fun | 9 => 9 | 5 => 5 | 3 => 3 | n => n, fun | n => n⟩
theorem zyH : Go.Proofs.Lays.n137 Tryz.prog zrV := {
  mixed := by kernel_rfl
  f137 := Tryz.func224.trans (congrArg some (by kernel_rfl))
  f217 := Tryz.func247.trans (congrArg some (by kernel_rfl))
  f266 := Tryz.func267.trans (congrArg some (by kernel_rfl))
  t3 := Tryz.underlying3
  a3 := Tryz.isAgg3
  z3 := Tryz.sizeOf3
  v3 := Tryz.zeroValue3
  t5 := Tryz.underlying5
  a5 := Tryz.isAgg5
  z5 := Tryz.sizeOf5
  v5 := Tryz.zeroValue5
  t9 := Tryz.underlying9
  a9 := Tryz.isAgg9
  z9 := Tryz.sizeOf9
  v9 := Tryz.zeroValue9 }
def zrT : Go.Shelf.Ren := ⟨fun | 103 => 187 | 210 => 217 | 206 => 216 | n => n, fun | 9 => 9 | 4 => 4 | 24 => 243 | 3 => 3 | n => n, fun | n => n⟩
theorem zyF : Go.Proofs.Lays.n103 Tryz.prog zrT := {
  mixed := by kernel_rfl
  f103 := Tryz.func187.trans (congrArg some (by kernel_rfl))
  f206 := Tryz.func216.trans (congrArg some (by kernel_rfl))
  f210 := Tryz.func217.trans (congrArg some (by kernel_rfl))
  t3 := Tryz.underlying3
  a3 := Tryz.isAgg3
  z3 := Tryz.sizeOf3
  v3 := Tryz.zeroValue3
  t4 := Tryz.underlying4
  a4 := Tryz.isAgg4
  z4 := Tryz.sizeOf4
  v4 := Tryz.zeroValue4
  t9 := Tryz.underlying9
  a9 := Tryz.isAgg9
  z9 := Tryz.sizeOf9
  v9 := Tryz.zeroValue9
  t24 := Tryz.underlying243
  a24 := Tryz.isAgg243
  z24 := Tryz.sizeOf243
  v24 := Tryz.zeroValue243 }
def zrU : Go.Shelf.Ren := ⟨fun | 104 => 148 | 211 => 196 | 207 => 228 | n => n, fun | 9 => 9 | 4 => 4 | 24 => 243 | 3 => 3 | n => n, fun | n => n⟩
theorem zyG : Go.Proofs.Lays.n104 Tryz.prog zrU := {
  mixed := by kernel_rfl
  f104 := Tryz.func148.trans (congrArg some (by kernel_rfl))
  f207 := Tryz.func228.trans (congrArg some (by kernel_rfl))
  f211 := Tryz.func196.trans (congrArg some (by kernel_rfl))
  t3 := Tryz.underlying3
  a3 := Tryz.isAgg3
  z3 := Tryz.sizeOf3
  v3 := Tryz.zeroValue3
  t4 := Tryz.underlying4
  a4 := Tryz.isAgg4
  z4 := Tryz.sizeOf4
  v4 := Tryz.zeroValue4
  t9 := Tryz.underlying9
  a9 := Tryz.isAgg9
  z9 := Tryz.sizeOf9
  v9 := Tryz.zeroValue9
  t24 := Tryz.underlying243
  a24 := Tryz.isAgg243
  z24 := Tryz.sizeOf243
  v24 := Tryz.zeroValue243 }
def ZJ : Go.Shelf.Ren := ⟨fun | 172 => 188 | 244 => 218 | 245 => 219 | 247 => 241 | 279 => 242 | 280 => 243 | 281 => 244 | 282 => 245 | 287 => 263 | 316 => 264 | 171 => 184 | 205 => 265 | 321 => 273 | 322 => 274 | 243 => 215 | 246 => 240 | 283 => 259 | 284 => 260 | 285 => 261 | 286 => 262 | 129 => 214 | 317 => 270 | 318 => 271 | 319 => 272 | 320 => 238 | 337 => 258 | 338 => 213 | n => n, fun | 9 => 9 | 3 => 3 | 75 => 311 | 76 => 312 | 4 => 4 | 5 => 5 | 167 => 397 | 37 => 27 | 0 => 0 | 85 => 398 | 2 => 2 | 168 => 400 | 53 => 191 | 175 => 413 | 46 => 96 | 210 => 417 | 127 => 427 | 145 => 430 | 143 => 428 | 21 => 21 | 171 => 409 | 173 => 411 | 212 => 424 | 51 => 267 | 20 => 20 | 213 => 425 | 232 => 422 | 233 => 395 | 80 => 435 | n => n, fun | 15 => 3 | 16 => 4 | 17 => 6 | 18 => 5 | 19 => 1 | n => n⟩
theorem ky : Go.Proofs.LaysC.n172 Tryz.prog ZJ := {
  mixed := by kernel_rfl
  f129 := Tryz.func214.trans (congrArg some (by kernel_rfl))
  f171 := Tryz.func184.trans (congrArg some (by kernel_rfl))
  f172 := Tryz.func188.trans (congrArg some (by kernel_rfl))
  f205 := Tryz.func265.trans (congrArg some (by kernel_rfl))
  f243 := Tryz.func215.trans (congrArg some (by kernel_rfl))
  f244 := Tryz.func218.trans (congrArg some (by kernel_rfl))
  f245 := Tryz.func219.trans (congrArg some (by kernel_rfl))
  f246 := Tryz.func240.trans (congrArg some (by kernel_rfl))
  f247 := Tryz.func241.trans (congrArg some (by kernel_rfl))
  f279 := Tryz.func242.trans (congrArg some (by kernel_rfl))
  f280 := Tryz.func243.trans (congrArg some (by kernel_rfl))
  f281 := Tryz.func244.trans (congrArg some (by kernel_rfl))
  f282 := Tryz.func245.trans (congrArg some (by kernel_rfl))
  f283 := Tryz.func259.trans (congrArg some (by kernel_rfl))
  f284 := Tryz.func260.trans (congrArg some (by kernel_rfl))
  f285 := Tryz.func261.trans (congrArg some (by kernel_rfl))
  f286 := Tryz.func262.trans (congrArg some (by kernel_rfl))
  f287 := Tryz.func263.trans (congrArg some (by kernel_rfl))
  f316 := Tryz.func264.trans (congrArg some (by kernel_rfl))
  f317 := Tryz.func270.trans (congrArg some (by kernel_rfl))
  f318 := Tryz.func271.trans (congrArg some (by kernel_rfl))
  f319 := Tryz.func272.trans (congrArg some (by kernel_rfl))
  f320 := Tryz.func238.trans (congrArg some (by kernel_rfl))
  f321 := Tryz.func273.trans (congrArg some (by kernel_rfl))
  f322 := Tryz.func274.trans (congrArg some (by kernel_rfl))
  f337 := Tryz.func258.trans (congrArg some (by kernel_rfl))
  f338 := Tryz.func213.trans (congrArg some (by kernel_rfl))
  t0 := Tryz.underlying0
  a0 := Tryz.isAgg0
  z0 := Tryz.sizeOf0
  v0 := Tryz.zeroValue0
  t2 := Tryz.underlying2
  a2 := Tryz.isAgg2
  z2 := Tryz.sizeOf2
  v2 := Tryz.zeroValue2
  t3 := Tryz.underlying3
  a3 := Tryz.isAgg3
  z3 := Tryz.sizeOf3
  v3 := Tryz.zeroValue3
  t4 := Tryz.underlying4
  a4 := Tryz.isAgg4
  z4 := Tryz.sizeOf4
  v4 := Tryz.zeroValue4
  t5 := Tryz.underlying5
  a5 := Tryz.isAgg5
  z5 := Tryz.sizeOf5
  v5 := Tryz.zeroValue5
  t9 := Tryz.underlying9
  a9 := Tryz.isAgg9
  z9 := Tryz.sizeOf9
  v9 := Tryz.zeroValue9
  t20 := Tryz.underlying20
  a20 := Tryz.isAgg20
  z20 := Tryz.sizeOf20
  v20 := Tryz.zeroValue20
  t21 := Tryz.underlying21
  a21 := Tryz.isAgg21
  z21 := Tryz.sizeOf21
  v21 := Tryz.zeroValue21
  t37 := Tryz.underlying27
  a37 := Tryz.isAgg27
  z37 := Tryz.sizeOf27
  v37 := Tryz.zeroValue27
  t46 := Tryz.underlying96
  a46 := Tryz.isAgg96
  z46 := Tryz.sizeOf96
  v46 := Tryz.zeroValue96
  t51 := Tryz.underlying267
  a51 := Tryz.isAgg267
  z51 := Tryz.sizeOf267
  v51 := Tryz.zeroValue267
  t53 := Tryz.underlying191
  a53 := Tryz.isAgg191
  z53 := Tryz.sizeOf191
  v53 := Tryz.zeroValue191
  t75 := Tryz.underlying311
  a75 := Tryz.isAgg311
  z75 := Tryz.sizeOf311
  v75 := Tryz.zeroValue311
  t76 := Tryz.underlying312
  a76 := Tryz.isAgg312
  z76 := Tryz.sizeOf312
  v76 := Tryz.zeroValue312
  t85 := Tryz.underlying398
  a85 := Tryz.isAgg398
  z85 := Tryz.sizeOf398
  v85 := Tryz.zeroValue398
  t127 := Tryz.underlying427
  a127 := Tryz.isAgg427
  z127 := Tryz.sizeOf427
  v127 := Tryz.zeroValue427
  t143 := Tryz.underlying428
  a143 := Tryz.isAgg428
  z143 := Tryz.sizeOf428
  v143 := Tryz.zeroValue428
  t145 := Tryz.underlying430
  a145 := Tryz.isAgg430
  z145 := Tryz.sizeOf430
  v145 := Tryz.zeroValue430
  t167 := Tryz.underlying397
  a167 := Tryz.isAgg397
  z167 := Tryz.sizeOf397
  v167 := Tryz.zeroValue397
  t168 := Tryz.underlying400
  a168 := Tryz.isAgg400
  z168 := Tryz.sizeOf400
  v168 := Tryz.zeroValue400
  t171 := Tryz.underlying409
  a171 := Tryz.isAgg409
  z171 := Tryz.sizeOf409
  v171 := Tryz.zeroValue409
  t173 := Tryz.underlying411
  a173 := Tryz.isAgg411
  z173 := Tryz.sizeOf411
  v173 := Tryz.zeroValue411
  t175 := Tryz.underlying413
  a175 := Tryz.isAgg413
  z175 := Tryz.sizeOf413
  v175 := Tryz.zeroValue413
  t210 := Tryz.underlying417
  a210 := Tryz.isAgg417
  z210 := Tryz.sizeOf417
  v210 := Tryz.zeroValue417
  t212 := Tryz.underlying424
  a212 := Tryz.isAgg424
  z212 := Tryz.sizeOf424
  v212 := Tryz.zeroValue424
  t213 := Tryz.underlying425
  a213 := Tryz.isAgg425
  z213 := Tryz.sizeOf425
  t232 := Tryz.underlying422
  a232 := Tryz.isAgg422
  z232 := Tryz.sizeOf422
  v232 := Tryz.zeroValue422
  t233 := Tryz.underlying395
  a233 := Tryz.isAgg395
  z233 := Tryz.sizeOf395
  v233 := Tryz.zeroValue395
  g15 := by kernel_rfl
  g16 := by kernel_rfl
  g17 := by kernel_rfl
  g18 := by kernel_rfl
  g19 := by kernel_rfl
  t80 := Tryz.underlying435
  a80 := Tryz.isAgg435
  z80 := Tryz.sizeOf435
  v80 := Tryz.zeroValue435
  i0 := by kernel_rfl
  i2 := by kernel_rfl
  i3 := by kernel_rfl
  i4 := by kernel_rfl
  i5 := by kernel_rfl
  i9 := by kernel_rfl
  i20 := by kernel_rfl
  i21 := by kernel_rfl
  i37 := by kernel_rfl
  i46 := by kernel_rfl
  i51 := by kernel_rfl
  i53 := by kernel_rfl
  i75 := by kernel_rfl
  i76 := by kernel_rfl
  i80 := by kernel_rfl
  i85 := by kernel_rfl
  i127 := by kernel_rfl
  i143 := by kernel_rfl
  i145 := by kernel_rfl
  i167 := by kernel_rfl
  i168 := by kernel_rfl
  i171 := by kernel_rfl
  i173 := by kernel_rfl
  i175 := by kernel_rfl
  i210 := by kernel_rfl
  i212 := by kernel_rfl
  i232 := by kernel_rfl
  i233 := by kernel_rfl
  m15 := by kernel_rfl
  m16 := by kernel_rfl
  m17 := by kernel_rfl
  m18 := by kernel_rfl
  m19 := by kernel_rfl
  c0 := by kernel_rfl
  c2 := by kernel_rfl
  c3 := by kernel_rfl
  c4 := by kernel_rfl
  c5 := by kernel_rfl
  c9 := by kernel_rfl
  c20 := by kernel_rfl
  c21 := by kernel_rfl
  c37 := by kernel_rfl
  c46 := by kernel_rfl
  c51 := by kernel_rfl
  c53 := by kernel_rfl
  c75 := by kernel_rfl
  c76 := by kernel_rfl
  c80 := by kernel_rfl
  c85 := by kernel_rfl
  c127 := by kernel_rfl
  c143 := by kernel_rfl
  c145 := by kernel_rfl
  c167 := by kernel_rfl
  c168 := by kernel_rfl
  c171 := by kernel_rfl
  c173 := by kernel_rfl
  c175 := by kernel_rfl
  c210 := by kernel_rfl
  c212 := by kernel_rfl
  c213 := by kernel_rfl
  c232 := by kernel_rfl
  c233 := by kernel_rfl }
def ZK : Go.Shelf.Ren := ⟨fun | 171 => 184 | 243 => 215 | 246 => 240 | 283 => 259 | 284 => 260 | 285 => 261 | 286 => 262 | 129 => 214 | 317 => 270 | 318 => 271 | 319 => 272 | 320 => 238 | 337 => 258 | 338 => 213 | n => n, fun | 3 => 3 | 9 => 9 | 2 => 2 | 4 => 4 | 171 => 409 | 0 => 0 | 53 => 191 | 37 => 27 | 5 => 5 | 173 => 411 | 212 => 424 | 51 => 267 | 20 => 20 | 213 => 425 | 46 => 96 | 232 => 422 | 233 => 395 | n => n, fun | 17 => 6 | 18 => 5 | 19 => 1 | n => n⟩
theorem Jg : Go.Proofs.LaysM.n171 Tryz.prog ZK := {
  mixed := by kernel_rfl
  f129 := Tryz.func214.trans (congrArg some (by kernel_rfl))
  f171 := Tryz.func184.trans (congrArg some (by kernel_rfl))
  f243 := Tryz.func215.trans (congrArg some (by kernel_rfl))
  f246 := Tryz.func240.trans (congrArg some (by kernel_rfl))
  f283 := Tryz.func259.trans (congrArg some (by kernel_rfl))
  f284 := Tryz.func260.trans (congrArg some (by kernel_rfl))
  f285 := Tryz.func261.trans (congrArg some (by kernel_rfl))
  f286 := Tryz.func262.trans (congrArg some (by kernel_rfl))
  f317 := Tryz.func270.trans (congrArg some (by kernel_rfl))
  f318 := Tryz.func271.trans (congrArg some (by kernel_rfl))
  f319 := Tryz.func272.trans (congrArg some (by kernel_rfl))
  f320 := Tryz.func238.trans (congrArg some (by kernel_rfl))
  f337 := Tryz.func258.trans (congrArg some (by kernel_rfl))
  f338 := Tryz.func213.trans (congrArg some (by kernel_rfl))
  t0 := Tryz.underlying0
  a0 := Tryz.isAgg0
  z0 := Tryz.sizeOf0
  v0 := Tryz.zeroValue0
  t2 := Tryz.underlying2
  a2 := Tryz.isAgg2
  z2 := Tryz.sizeOf2
  v2 := Tryz.zeroValue2
  t3 := Tryz.underlying3
  a3 := Tryz.isAgg3
  z3 := Tryz.sizeOf3
  v3 := Tryz.zeroValue3
  t4 := Tryz.underlying4
  a4 := Tryz.isAgg4
  z4 := Tryz.sizeOf4
  v4 := Tryz.zeroValue4
  t5 := Tryz.underlying5
  a5 := Tryz.isAgg5
  z5 := Tryz.sizeOf5
  v5 := Tryz.zeroValue5
  t9 := Tryz.underlying9
  a9 := Tryz.isAgg9
  z9 := Tryz.sizeOf9
  v9 := Tryz.zeroValue9
  t20 := Tryz.underlying20
  a20 := Tryz.isAgg20
  z20 := Tryz.sizeOf20
  v20 := Tryz.zeroValue20
  t37 := Tryz.underlying27
  a37 := Tryz.isAgg27
  z37 := Tryz.sizeOf27
  v37 := Tryz.zeroValue27
  t46 := Tryz.underlying96
  a46 := Tryz.isAgg96
  z46 := Tryz.sizeOf96
  v46 := Tryz.zeroValue96
  t51 := Tryz.underlying267
  a51 := Tryz.isAgg267
  z51 := Tryz.sizeOf267
  v51 := Tryz.zeroValue267
  t53 := Tryz.underlying191
  a53 := Tryz.isAgg191
  z53 := Tryz.sizeOf191
  v53 := Tryz.zeroValue191
  t171 := Tryz.underlying409
  a171 := Tryz.isAgg409
  z171 := Tryz.sizeOf409
  v171 := Tryz.zeroValue409
  t173 := Tryz.underlying411
  a173 := Tryz.isAgg411
  z173 := Tryz.sizeOf411
  v173 := Tryz.zeroValue411
  t212 := Tryz.underlying424
  a212 := Tryz.isAgg424
  z212 := Tryz.sizeOf424
  v212 := Tryz.zeroValue424
  t213 := Tryz.underlying425
  a213 := Tryz.isAgg425
  z213 := Tryz.sizeOf425
  t232 := Tryz.underlying422
  a232 := Tryz.isAgg422
  z232 := Tryz.sizeOf422
  v232 := Tryz.zeroValue422
  t233 := Tryz.underlying395
  a233 := Tryz.isAgg395
  z233 := Tryz.sizeOf395
  v233 := Tryz.zeroValue395
  g17 := by kernel_rfl
  g18 := by kernel_rfl
  g19 := by kernel_rfl
  i0 := by kernel_rfl
  i2 := by kernel_rfl
  i3 := by kernel_rfl
  i4 := by kernel_rfl
  i5 := by kernel_rfl
  i9 := by kernel_rfl
  i20 := by kernel_rfl
  i37 := by kernel_rfl
  i46 := by kernel_rfl
  i51 := by kernel_rfl
  i53 := by kernel_rfl
  i171 := by kernel_rfl
  i173 := by kernel_rfl
  i212 := by kernel_rfl
  i232 := by kernel_rfl
  i233 := by kernel_rfl
  m17 := by kernel_rfl
  m18 := by kernel_rfl
  m19 := by kernel_rfl }
def zrW : Go.Shelf.Ren := ⟨fun | 145 => 140 | 220 => 190 | 219 => 223 | 217 => 247 | 225 => 248 | 224 => 249 | 267 => 250 | 266 => 267 | 314 => 268 | n => n, fun | 9 => 9 | 4 => 4 | 59 => 233 | 3 => 3 | 5 => 5 | 46 => 96 | 146 => 419 | 51 => 267 | n => n, fun | 1 => 2 | n => n⟩
theorem zyI : Go.Proofs.Lays.n145 Tryz.prog zrW := {
  mixed := by kernel_rfl
  f145 := Tryz.func140.trans (congrArg some (by kernel_rfl))
  f217 := Tryz.func247.trans (congrArg some (by kernel_rfl))
  f219 := Tryz.func223.trans (congrArg some (by kernel_rfl))
  f220 := Tryz.func190.trans (congrArg some (by kernel_rfl))
  f224 := Tryz.func249.trans (congrArg some (by kernel_rfl))
  f225 := Tryz.func248.trans (congrArg some (by kernel_rfl))
  f266 := Tryz.func267.trans (congrArg some (by kernel_rfl))
  f267 := Tryz.func250.trans (congrArg some (by kernel_rfl))
  f314 := Tryz.func268.trans (congrArg some (by kernel_rfl))
  t3 := Tryz.underlying3
  a3 := Tryz.isAgg3
  z3 := Tryz.sizeOf3
  v3 := Tryz.zeroValue3
  t4 := Tryz.underlying4
  a4 := Tryz.isAgg4
  z4 := Tryz.sizeOf4
  v4 := Tryz.zeroValue4
  t5 := Tryz.underlying5
  a5 := Tryz.isAgg5
  z5 := Tryz.sizeOf5
  v5 := Tryz.zeroValue5
  t9 := Tryz.underlying9
  a9 := Tryz.isAgg9
  z9 := Tryz.sizeOf9
  v9 := Tryz.zeroValue9
  t46 := Tryz.underlying96
  a46 := Tryz.isAgg96
  z46 := Tryz.sizeOf96
  v46 := Tryz.zeroValue96
  t51 := Tryz.underlying267
  a51 := Tryz.isAgg267
  z51 := Tryz.sizeOf267
  v51 := Tryz.zeroValue267
  t59 := Tryz.underlying233
  a59 := Tryz.isAgg233
  z59 := Tryz.sizeOf233
  v59 := Tryz.zeroValue233
  t146 := Tryz.underlying419
  a146 := Tryz.isAgg419
  z146 := Tryz.sizeOf419
  v146 := Tryz.zeroValue419
  g1 := by kernel_rfl }
def zrR : Go.Shelf.Ren := ⟨fun | 101 => 134 | 208 => 186 | 206 => 216 | n => n, fun | 9 => 9 | 4 => 4 | 3 => 3 | n => n, fun | n => n⟩
theorem zyD : Go.Proofs.Lays.n101 Tryz.prog zrR := {
  mixed := by kernel_rfl
  f101 := Tryz.func134.trans (congrArg some (by kernel_rfl))
  f206 := Tryz.func216.trans (congrArg some (by kernel_rfl))
  f208 := Tryz.func186.trans (congrArg some (by kernel_rfl))
  t3 := Tryz.underlying3
  a3 := Tryz.isAgg3
  z3 := Tryz.sizeOf3
  v3 := Tryz.zeroValue3
  t4 := Tryz.underlying4
  a4 := Tryz.isAgg4
  z4 := Tryz.sizeOf4
  v4 := Tryz.zeroValue4
  t9 := Tryz.underlying9
  a9 := Tryz.isAgg9
  z9 := Tryz.sizeOf9
  v9 := Tryz.zeroValue9 }
def zrS : Go.Shelf.Ren := ⟨fun | 102 => 149 | 209 => 197 | 207 => 228 | n => n, fun | 9 => 9 | 4 => 4 | 3 => 3 | n => n, fun | n => n⟩
theorem zyE : Go.Proofs.Lays.n102 Tryz.prog zrS := {
  mixed := by kernel_rfl
  f102 := Tryz.func149.trans (congrArg some (by kernel_rfl))
  f207 := Tryz.func228.trans (congrArg some (by kernel_rfl))
  f209 := Tryz.func197.trans (congrArg some (by kernel_rfl))
  t3 := Tryz.underlying3
  a3 := Tryz.isAgg3
  z3 := Tryz.sizeOf3
  v3 := Tryz.zeroValue3
  t4 := Tryz.underlying4
  a4 := Tryz.isAgg4
  z4 := Tryz.sizeOf4
  v4 := Tryz.zeroValue4
  t9 := Tryz.underlying9
  a9 := Tryz.isAgg9
  z9 := Tryz.sizeOf9
  v9 := Tryz.zeroValue9 }
def YG : Go.Shelf.Ren := ⟨fun | 146 => 153 | 221 => 198 | 268 => 229 | 138 => 230 | 143 => 231 | 195 => 253 | 197 => 246 | 218 => 254 | 219 => 223 | 260 => 266 | 217 => 247 | 225 => 248 | 224 => 249 | 267 => 250 | 266 => 267 | 314 => 268 | n => n, fun | 9 => 9 | 31 => 249 | 3 => 3 | 4 => 4 | 0 => 0 | 105 => 369 | 21 => 21 | 5 => 5 | 46 => 96 | 119 => 431 | 139 => 434 | 138 => 433 | 146 => 419 | 51 => 267 | n => n, fun | 1 => 2 | 3 => 7 | 4 => 8 | n => n⟩
theorem zay : Go.Proofs.Lays.n146 Tryz.prog YG := {
  mixed := by kernel_rfl
  f138 := Tryz.func230.trans (congrArg some (by kernel_rfl))
  f143 := Tryz.func231.trans (congrArg some (by kernel_rfl))
  f146 := Tryz.func153.trans (congrArg some (by kernel_rfl))
  f195 := Tryz.func253.trans (congrArg some (by kernel_rfl))
  f197 := Tryz.func246.trans (congrArg some (by kernel_rfl))
  f217 := Tryz.func247.trans (congrArg some (by kernel_rfl))
  f218 := Tryz.func254.trans (congrArg some (by kernel_rfl))
  f219 := Tryz.func223.trans (congrArg some (by kernel_rfl))
  f221 := Tryz.func198.trans (congrArg some (by kernel_rfl))
  f224 := Tryz.func249.trans (congrArg some (by kernel_rfl))
  f225 := Tryz.func248.trans (congrArg some (by kernel_rfl))
  f260 := Tryz.func266.trans (congrArg some (by kernel_rfl))
  f266 := Tryz.func267.trans (congrArg some (by kernel_rfl))
  f267 := Tryz.func250.trans (congrArg some (by kernel_rfl))
  f268 := Tryz.func229.trans (congrArg some (by kernel_rfl))
  f314 := Tryz.func268.trans (congrArg some (by kernel_rfl))
  t0 := Tryz.underlying0
  a0 := Tryz.isAgg0
  z0 := Tryz.sizeOf0
  v0 := Tryz.zeroValue0
  t3 := Tryz.underlying3
  a3 := Tryz.isAgg3
  z3 := Tryz.sizeOf3
  v3 := Tryz.zeroValue3
  t4 := Tryz.underlying4
  a4 := Tryz.isAgg4
  z4 := Tryz.sizeOf4
  v4 := Tryz.zeroValue4
  t5 := Tryz.underlying5
  a5 := Tryz.isAgg5
  z5 := Tryz.sizeOf5
  v5 := Tryz.zeroValue5
  t9 := Tryz.underlying9
  a9 := Tryz.isAgg9
  z9 := Tryz.sizeOf9
  v9 := Tryz.zeroValue9
  t21 := Tryz.underlying21
  a21 := Tryz.isAgg21
  z21 := Tryz.sizeOf21
  v21 := Tryz.zeroValue21
  t31 := Tryz.underlying249
  a31 := Tryz.isAgg249
  z31 := Tryz.sizeOf249
  v31 := Tryz.zeroValue249
  t46 := Tryz.underlying96
  a46 := Tryz.isAgg96
  z46 := Tryz.sizeOf96
  v46 := Tryz.zeroValue96
  t51 := Tryz.underlying267
  a51 := Tryz.isAgg267
  z51 := Tryz.sizeOf267
  v51 := Tryz.zeroValue267
  t105 := Tryz.underlying369
  a105 := Tryz.isAgg369
  z105 := Tryz.sizeOf369
  v105 := Tryz.zeroValue369
  t119 := Tryz.underlying431
  a119 := Tryz.isAgg431
  z119 := Tryz.sizeOf431
  t138 := Tryz.underlying433
  a138 := Tryz.isAgg433
  z138 := Tryz.sizeOf433
  v138 := Tryz.zeroValue433
  t139 := Tryz.underlying434
  a139 := Tryz.isAgg434
  z139 := Tryz.sizeOf434
  v139 := Tryz.zeroValue434
  t146 := Tryz.underlying419
  a146 := Tryz.isAgg419
  z146 := Tryz.sizeOf419
  v146 := Tryz.zeroValue419
  g1 := by kernel_rfl
  g3 := by kernel_rfl
  g4 := by kernel_rfl }
def YH : Go.Shelf.Ren := ⟨fun | 29 => 213 | n => n, fun | 22 => 191 | 3 => 3 | 4 => 4 | 25 => 96 | 54 => 395 | 0 => 0 | 5 => 5 | n => n, fun | 1 => 1 | n => n⟩
theorem zaz : Go.Proofs.Lays7.n29 Tryz.prog YH := {
  mixed := by kernel_rfl
  f29 := Tryz.func213.trans (congrArg some (by kernel_rfl))
  t0 := Tryz.underlying0
  a0 := Tryz.isAgg0
  z0 := Tryz.sizeOf0
  v0 := Tryz.zeroValue0
  i0 := by kernel_rfl
  t3 := Tryz.underlying3
  a3 := Tryz.isAgg3
  z3 := Tryz.sizeOf3
  v3 := Tryz.zeroValue3
  i3 := by kernel_rfl
  t4 := Tryz.underlying4
  a4 := Tryz.isAgg4
  z4 := Tryz.sizeOf4
  v4 := Tryz.zeroValue4
  i4 := by kernel_rfl
  t5 := Tryz.underlying5
  a5 := Tryz.isAgg5
  z5 := Tryz.sizeOf5
  v5 := Tryz.zeroValue5
  i5 := by kernel_rfl
  t22 := Tryz.underlying191
  a22 := Tryz.isAgg191
  z22 := Tryz.sizeOf191
  v22 := Tryz.zeroValue191
  i22 := by kernel_rfl
  t25 := Tryz.underlying96
  a25 := Tryz.isAgg96
  z25 := Tryz.sizeOf96
  v25 := Tryz.zeroValue96
  i25 := by kernel_rfl
  t54 := Tryz.underlying395
  a54 := Tryz.isAgg395
  z54 := Tryz.sizeOf395
  g1 := by kernel_rfl }
def YF : Go.Shelf.Ren := ⟨fun | 129 => 214 | n => n, fun | 53 => 191 | 3 => 3 | 4 => 4 | 46 => 96 | 5 => 5 | 9 => 9 | n => n, fun | n => n⟩
theorem zax : Go.Proofs.Lays.n129 Tryz.prog YF := {
  mixed := by kernel_rfl
  f129 := Tryz.func214.trans (congrArg some (by kernel_rfl))
  t3 := Tryz.underlying3
  a3 := Tryz.isAgg3
  z3 := Tryz.sizeOf3
  v3 := Tryz.zeroValue3
  t4 := Tryz.underlying4
  a4 := Tryz.isAgg4
  z4 := Tryz.sizeOf4
  v4 := Tryz.zeroValue4
  t5 := Tryz.underlying5
  a5 := Tryz.isAgg5
  z5 := Tryz.sizeOf5
  v5 := Tryz.zeroValue5
  t9 := Tryz.underlying9
  a9 := Tryz.isAgg9
  z9 := Tryz.sizeOf9
  v9 := Tryz.zeroValue9
  t46 := Tryz.underlying96
  a46 := Tryz.isAgg96
  z46 := Tryz.sizeOf96
  v46 := Tryz.zeroValue96
  t53 := Tryz.underlying191
  a53 := Tryz.isAgg191
  z53 := Tryz.sizeOf191
  v53 := Tryz.zeroValue191 }
end Go.Proofs.YtaiegbjgfdhgaaaGreatDoor
namespace Go.Bk
abbrev Bs := List UInt8
structure Sp where
  lo : Int
  hi : Int
deriving DecidableEq, Inhabited
structure Hut where
  floor : Int
  brake : Int
  row : Int
deriving DecidableEq, Inhabited
structure Surf where
  rows : Int
  step : Int
  water : List Sp
  waves : List Sp
  huts : List Hut
deriving DecidableEq, Inhabited
structure zoq where
  wind : Sp
  thunder : Int
deriving DecidableEq, Inhabited
structure zoD where
  hour : Int
  up : Bool
deriving DecidableEq, Inhabited
structure Flag where
  low : Int
  high : Int
  quiet : Int
  hours : List zoq
  seen : List zoD
deriving DecidableEq, Inhabited
structure zmz where
  minute : Int
  cols : Sp
  rows : Sp
deriving DecidableEq, Inhabited
structure xb where
  wide : Int
  deep : Int
  speed : Int
  last : Int
  seen : List (List zmz)
deriving DecidableEq, Inhabited
def inB (n lo hi : Int) : Bool := decide (lo ≤ n ∧ n ≤ hi)
def spB (s : Sp) (lo hi : Int) : Bool := decide (lo ≤ s.lo ∧ s.lo ≤ s.hi ∧ s.hi ≤ hi)
def ZP (s : Sp) (hi : Int) : Bool := spB s 0 hi && decide (s.hi - s.lo ≤ 3)
def hutB (rows : Int) (h : Hut) : Bool := inB h.floor 0 40 && inB h.brake 0 10 && inB h.row 0 (rows - 1)
def zn8 (s : Surf) : Bool := inB s.rows 1 6 && inB s.step 0 4 && decide (s.water.length ≤ 8) && decide (s.waves.length = s.water.length) && decide (s.huts.length ≤ 5)
  && s.water.all (ZP · 30) && s.waves.all (ZP · 10) && s.huts.all (hutB s.rows)
def zuw (h : zoq) : Bool := spB h.wind 0 12 && inB h.thunder 0 2
def znf (f : Flag) : Bool := decide (1 ≤ f.low ∧ f.low ≤ f.high ∧ f.high ≤ 12) && inB f.quiet 1 4 && decide (f.hours.length ≤ 9) && decide (f.seen.length ≤ 8)
  && f.hours.all zuw && f.seen.all fun s => inB s.hour 0 ((f.hours.length : Int) - 1)
def rowB (b : xb) : Int → List zmz → Bool
  | _, [] => true
  | m, s :: l => inB s.minute m b.last && spB s.cols 0 (b.wide - 1) && spB s.rows 0 (b.deep - 1) && rowB b s.minute l
def zmD (b : xb) : Bool := inB b.wide 1 8 && inB b.deep 1 6 && inB b.speed 0 3 && inB b.last 0 12 && decide (b.seen.length ≤ 4)
  && b.seen.all fun l => decide (l.length ≤ 5) && rowB b 0 l
abbrev num (n : Int) : Bs := Lib.itoa n
def two (n : Int) : Bs := if n < 10 then 32 :: num n else num n
def unl (ls : List Bs) : Bs := ls.flatMap (· ++ [10])
def zpf : Bs := [115, 117, 114, 102, 32]
def zo9 : Bs := [119, 97, 116, 101, 114]
def zoh : Bs := [119, 97, 118, 101, 115]
def hutW : Bs := [104, 117, 116, 32]
def zoc : Bs := [102, 108, 97, 103, 32]
def zo1 : Bs := [104, 111, 117, 114, 115]
def zpW : Bs := [115, 101, 101, 110]
def zof : Bs := [98, 111, 97, 116, 115]
def zoi : Bs := [98, 111, 97, 116]
def colT (x : Sp) : Bs := 32 :: (two x.lo ++ 45 :: two x.hi)
def znl (w : Bs) (l : List Sp) : Bs := w ++ l.flatMap colT
def hutT (h : Hut) : Bs := hutW ++ (two h.floor ++ 32 :: (two h.brake ++ 32 :: num h.row))
def zsi (s : Surf) : Bs := zpf ++ (num s.rows ++ 120 :: num s.step)
def zpM (s : Surf) : List Bs := zsi s :: znl zo9 s.water :: znl zoh s.waves :: s.huts.map hutT
def zmO (s : Surf) : Bs := unl (zpM s)
def vX (s : Sp) : Bs := if s.lo = s.hi then num s.lo else num s.lo ++ 46 :: 46 :: num s.hi
def markT (t : Int) : Bs := if t = 1 then [63] else if t = 2 then [33] else []
def zok (h : zoq) : Bs := vX h.wind ++ markT h.thunder
def znV (s : zoD) : Bs := num s.hour ++ [if s.up then 43 else 45]
def behind {α : Type} (w : Bs) (f : α → Bs) (l : List α) : Bs := w ++ l.flatMap fun x => 32 :: f x
def zrL (f : Flag) : Bs := zoc ++ (num f.low ++ 45 :: (num f.high ++ 47 :: num f.quiet))
def zpT (f : Flag) : List Bs := [zrL f, behind zo1 zok f.hours, behind zpW znV f.seen]
def zmN (f : Flag) : Bs := unl (zpT f)
def zn5 (s : zmz) : Bs := num s.minute ++ 64 :: (vX s.cols ++ 44 :: vX s.rows)
def zpr (b : xb) : Bs := zof ++ 32 :: (num b.wide ++ 120 :: (num b.deep ++ 32 :: 118 :: (num b.speed ++ 32 :: 116 :: num b.last)))
def zo0 (b : xb) : List Bs := zpr b :: b.seen.map (behind zoi zn5)
def zmu (b : xb) : Bs := unl (zo0 b)
def small (k : Nat) : Bs := if k < 10 then [UInt8.ofNat (48 + k)] else [UInt8.ofNat (48 + k / 10), UInt8.ofNat (48 + k % 10)]
theorem zrj {k : Nat} (h : k < 100) : num (k : Int) = small k := by
  have h0 : ¬ (k : Int) < 0 := by omega
  unfold num Lib.itoa small;rw [if_neg h0, Int.toNat_natCast];by_cases h1 : k < 10
  · rw [if_pos h1, Lib.decDigits_one h1]
  · rw [if_neg h1, Lib.decDigits_two h1 h]
def zmw (n : Int) : Prop := 0 ≤ n ∧ n < 100
theorem zmw.nat {n : Int} (h : zmw n) : ∃ k : Nat, k < 100 ∧ n = (k : Int) ∧ num n = small k :=
  ⟨n.toNat, by have := h.1; have := h.2; omega, by have := h.1; omega, by
    have h1 := h.1; have h2 := h.2;rw [← zrj (by omega)];congr 1; omega⟩
def dig (b : UInt8) : Bool := decide (48 ≤ b.toNat ∧ b.toNat ≤ 57)
theorem zvr : ∀ k : Fin 100, (small k.val).all dig = true := by decide +kernel
theorem zvs : ∀ k : Fin 100, 1 ≤ (small k.val).length ∧ (small k.val).length ≤ 2 := by decide +kernel
theorem ztQ : ∀ k : Fin 100, Lib.atoiAll (small k.val) = .ok (k.val : Int) := by decide +kernel
section
variable {n : Int} (h : zmw n)
include n h
theorem zs4 : ∀ b ∈ num n, dig b = true := by
  obtain ⟨k, hk, _, e⟩ := h.nat;rw [e];exact List.all_eq_true.1 (zvr ⟨k, hk⟩)
theorem KT : 1 ≤ (num n).length ∧ (num n).length ≤ 2 := by
  obtain ⟨k, hk, _, e⟩ := h.nat;rw [e];exact zvs ⟨k, hk⟩
theorem zmJ {c : UInt8} (hc : dig c = false) : c ∉ num n := fun hm => by
  rw [zs4 h c hm] at hc; cases hc
theorem zt0 : ∃ c t, num n = c :: t ∧ dig c = true := by
  have := (KT h).1;cases e : num n with
  | nil => rw [e] at this; simp at this
  | cons c t => exact ⟨c, t, rfl, zs4 h c (by rw [e]; simp)⟩
theorem zni : (two n).length = 2 := by
  obtain ⟨k, hk, rfl, e⟩ := h.nat;unfold two;rw [e];unfold small;by_cases h1 : k < 10
  · rw [if_pos (by omega), if_pos h1]; rfl
  · rw [if_neg (by omega), if_neg h1]; rfl
theorem zvP {c : UInt8} (hc : dig c = false) (hb : c ≠ 32) : c ∉ two n := by
  unfold two;split
  · simp only [List.mem_cons, not_or]; exact ⟨hb, zmJ h hc⟩
  · exact zmJ h hc
theorem zxk (t : Bs) : (two n ++ t).dropWhile (· == 32) = num n ++ t := by
  obtain ⟨c, r, e, hc⟩ := zt0 h
  have hc' : (c == 32) = false := by
    rw [beq_eq_false_iff_ne]; intro h'; subst h'; revert hc; decide
  unfold two;split
  · rw [List.cons_append, List.dropWhile_cons, if_pos (by decide), e, List.cons_append, List.dropWhile_cons, hc']; rfl
  · rw [e, List.cons_append, List.dropWhile_cons, hc']; rfl
theorem zwO (t : Bs) : (num n ++ t).dropWhile (· == 32) = num n ++ t := by
  obtain ⟨c, r, e, hc⟩ := zt0 h
  have hc' : (c == 32) = false := by
    rw [beq_eq_false_iff_ne]; intro h'; subst h'; revert hc; decide
  rw [e, List.cons_append, List.dropWhile_cons, hc']; rfl
end
def flat (l : Bs) : Prop := (10 : UInt8) ∉ l
theorem zpp (l : Bs) (ls : List Bs) : unl (l :: ls) = l ++ 10 :: unl ls := by simp [unl]
def lnsB : Bs → Bs → List Bs
  | acc, [] => if acc = [] then [] else [acc]
  | acc, c :: r => if c = 10 then (acc ++ [10]) :: lnsB [] r else lnsB (acc ++ [c]) r
theorem zpE : ∀ (l acc rest : Bs), flat l → lnsB acc (l ++ 10 :: rest) = (acc ++ l ++ [10]) :: lnsB [] rest
  | [], acc, rest, _ => by simp [lnsB]
  | c :: r, acc, rest, h => by
    have hc : c ≠ 10 := fun e => h (by simp [e]);rw [List.cons_append, lnsB, if_neg hc, zpE r (acc ++ [c]) rest (fun hm => h (by simp [hm]))];simp
def lns (s : Bs) : List Bs := (lnsB [] s).map fun l => Lib.trimSuffix l [10]
theorem zny (l p : Bs) : Lib.trimSuffix (l ++ p) p = l := by
  unfold Lib.trimSuffix
  have : Lib.hasSuffix (l ++ p) p = true := by
    unfold Lib.hasSuffix;rw [List.isSuffixOf_iff_suffix]; exact List.suffix_append l p
  rw [if_pos this]; simp
theorem zuN : ∀ (ls : List Bs), (∀ l ∈ ls, flat l) → lns (unl ls) = ls
  | [], _ => rfl
  | l :: ls, h => by
    have ih := zuN ls fun x hx => h x (by simp [hx]);unfold lns at ih ⊢;rw [zpp, zpE l [] _ (h l (by simp)), List.map_cons, ih, List.nil_append, zny]
theorem K5 {a b : Bs} (ha : flat a) (hb : flat b) : flat (a ++ b) := by
  unfold flat at *; simp [ha, hb]
theorem k1 {c : UInt8} {b : Bs} (hc : c ≠ 10) (hb : flat b) : flat (c :: b) := by
  unfold flat at *; simp [hb]; exact fun e => hc e.symm
theorem zmI {n : Int} (h : zmw n) : flat (num n) := zmJ h (by decide)
theorem zoa {n : Int} (h : zmw n) : flat (two n) := zvP h (by decide) (by decide)
theorem zot {α : Type} {f : α → Bs} {l : List α} (h : ∀ x ∈ l, flat (f x)) : flat (l.flatMap f) := by
  unfold flat at *;simp only [List.mem_flatMap, not_exists, not_and];exact h
structure SpOk (s : Sp) (hi : Int) : Prop where
  lo : 0 ≤ s.lo
  le : s.lo ≤ s.hi
  hi : s.hi ≤ hi
theorem znh {s : Sp} {lo hi : Int} : spB s lo hi = true ↔ lo ≤ s.lo ∧ s.lo ≤ s.hi ∧ s.hi ≤ hi := by simp [spB]
theorem zmQ {n lo hi : Int} : inB n lo hi = true ↔ lo ≤ n ∧ n ≤ hi := by simp [inB]
def zn9 (s : Sp) : Prop := zmw s.lo ∧ zmw s.hi
theorem zoY {s : Sp} {hi : Int} (h : spB s 0 hi = true) (hh : hi < 100) : zn9 s := by
  rw [znh] at h;exact ⟨⟨by omega, by omega⟩, ⟨by omega, by omega⟩⟩
structure zmo (s : Surf) : Prop where
  rows : 1 ≤ s.rows ∧ s.rows ≤ 6
  step : 0 ≤ s.step ∧ s.step ≤ 4
  nwater : s.water.length ≤ 8
  same : s.waves.length = s.water.length
  nhuts : s.huts.length ≤ 5
  water : ∀ x ∈ s.water, spB x 0 30 = true ∧ x.hi - x.lo ≤ 3
  waves : ∀ x ∈ s.waves, spB x 0 10 = true ∧ x.hi - x.lo ≤ 3
  huts : ∀ h ∈ s.huts, (0 ≤ h.floor ∧ h.floor ≤ 40) ∧ (0 ≤ h.brake ∧ h.brake ≤ 10) ∧ 0 ≤ h.row ∧ h.row ≤ s.rows - 1
theorem qa {s : Surf} : zn8 s = true ↔ zmo s := by
  simp only [zn8, hutB, ZP, inB, Bool.and_eq_true, List.all_eq_true, decide_eq_true_eq];constructor
  · rintro ⟨⟨⟨⟨⟨⟨⟨a, b⟩, c⟩, d⟩, e⟩, f⟩, g⟩, h⟩;exact ⟨a, b, c, d, e, f, g, fun x hx => ⟨(h x hx).1.1, (h x hx).1.2, (h x hx).2⟩⟩
  · rintro ⟨a, b, c, d, e, f, g, h⟩;exact ⟨⟨⟨⟨⟨⟨⟨a, b⟩, c⟩, d⟩, e⟩, f⟩, g⟩, fun x hx => ⟨⟨(h x hx).1, (h x hx).2.1⟩, (h x hx).2.2⟩⟩
structure zmp (f : Flag) : Prop where
  low : 1 ≤ f.low ∧ f.low ≤ f.high ∧ f.high ≤ 12
  quiet : 1 ≤ f.quiet ∧ f.quiet ≤ 4
  nhours : f.hours.length ≤ 9
  nseen : f.seen.length ≤ 8
  hours : ∀ h ∈ f.hours, spB h.wind 0 12 = true ∧ 0 ≤ h.thunder ∧ h.thunder ≤ 2
  seen : ∀ s ∈ f.seen, 0 ≤ s.hour ∧ s.hour ≤ (f.hours.length : Int) - 1
theorem qc {f : Flag} : znf f = true ↔ zmp f := by
  simp only [znf, zuw, inB, Bool.and_eq_true, List.all_eq_true, decide_eq_true_eq];constructor
  · rintro ⟨⟨⟨⟨⟨a, b⟩, c⟩, d⟩, e⟩, f⟩;exact ⟨a, b, c, d, e, f⟩
  · rintro ⟨a, b, c, d, e, f⟩;exact ⟨⟨⟨⟨⟨a, b⟩, c⟩, d⟩, e⟩, f⟩
structure zoC (b : xb) (s : zmz) : Prop where
  minute : 0 ≤ s.minute ∧ s.minute ≤ b.last
  cols : spB s.cols 0 (b.wide - 1) = true
  rows : spB s.rows 0 (b.deep - 1) = true
theorem zsd {b : xb} : ∀ (l : List zmz) (m : Int), 0 ≤ m → rowB b m l = true → ∀ s ∈ l, zoC b s
  | [], _, _, _ => by simp
  | s :: l, m, hm, h => by
    simp only [rowB, inB, Bool.and_eq_true, decide_eq_true_eq] at h;obtain ⟨⟨⟨h1, h2⟩, h3⟩, h4⟩ := h;intro x hx;rcases List.mem_cons.1 hx with rfl | hx
    · exact ⟨⟨by omega, h1.2⟩, h2, h3⟩
    · exact zsd l s.minute (by omega) h4 x hx
structure xv (b : xb) : Prop where
  wide : 1 ≤ b.wide ∧ b.wide ≤ 8
  deep : 1 ≤ b.deep ∧ b.deep ≤ 6
  speed : 0 ≤ b.speed ∧ b.speed ≤ 3
  last : 0 ≤ b.last ∧ b.last ≤ 12
  n : b.seen.length ≤ 4
  rows : ∀ l ∈ b.seen, l.length ≤ 5 ∧ rowB b 0 l = true
theorem ww {b : xb} : zmD b = true ↔ xv b := by
  simp only [zmD, inB, Bool.and_eq_true, List.all_eq_true, decide_eq_true_eq];constructor
  · rintro ⟨⟨⟨⟨⟨a, b⟩, c⟩, d⟩, e⟩, f⟩;exact ⟨a, b, c, d, e, f⟩
  · rintro ⟨a, b, c, d, e, f⟩;exact ⟨⟨⟨⟨⟨a, b⟩, c⟩, d⟩, e⟩, f⟩
theorem xv.sn {b : xb} (h : xv b) {l : List zmz} (hl : l ∈ b.seen) {s : zmz} (hs : s ∈ l) : zoC b s := zsd l 0 (Int.le_refl _) (h.rows l hl).2 s hs
theorem zpy {s : Sp} (h : zn9 s) : flat (vX s) := by
  unfold vX;split
  · exact zmI h.1
  · exact K5 (zmI h.1) (k1 (by decide) (k1 (by decide) (zmI h.2)))
theorem ztR {s : Surf} (h : zmo s) : ∀ l ∈ zpM s, flat l := by
  have h1 := h.rows; have h2 := h.step;intro l hl;simp only [zpM, List.mem_cons, List.mem_map] at hl;rcases hl with rfl | rfl | rfl | ⟨x, hx, rfl⟩
  · exact K5 (by simp [flat, zpf]) (K5 (zmI ⟨by omega, by omega⟩) (k1 (by decide) (zmI ⟨by omega, by omega⟩)))
  · refine K5 (by simp [flat, zo9]) (zot fun x hx => ?_);have := zoY (h.water x hx).1 (by omega);exact k1 (by decide) (K5 (zoa this.1) (k1 (by decide) (zoa this.2)))
  · refine K5 (by simp [flat, zoh]) (zot fun x hx => ?_);have := zoY (h.waves x hx).1 (by omega);exact k1 (by decide) (K5 (zoa this.1) (k1 (by decide) (zoa this.2)))
  · have := h.huts x hx;exact K5 (by simp [flat, hutW]) (K5 (zoa ⟨by omega, by omega⟩) (k1 (by decide) (K5 (zoa ⟨by omega, by omega⟩) (k1 (by decide) (zmI ⟨by omega, by omega⟩)))))
theorem zul (t : Int) : flat (markT t) := by
  unfold markT; split
  · simp [flat]
  · split <;> simp [flat]
theorem ztv {f : Flag} (h : zmp f) : ∀ l ∈ zpT f, flat l := by
  have h1 := h.low; have h2 := h.quiet; have h3 := h.nhours;intro l hl;simp only [zpT, List.mem_cons, List.not_mem_nil, or_false] at hl;rcases hl with rfl | rfl | rfl
  · exact K5 (by simp [flat, zoc]) (K5 (zmI ⟨by omega, by omega⟩) (k1 (by decide) (K5 (zmI ⟨by omega, by omega⟩) (k1 (by decide) (zmI ⟨by omega, by omega⟩)))))
  · refine K5 (by simp [flat, zo1]) (zot fun x hx => k1 (by decide) ?_);exact K5 (zpy (zoY (h.hours x hx).1 (by omega))) (zul _)
  · refine K5 (by simp [flat, zpW]) (zot fun x hx => k1 (by decide) ?_);have := h.seen x hx;refine K5 (zmI ⟨by omega, by omega⟩) ?_;split <;> simp [flat]
theorem zpg {b : xb} (h : xv b) {s : zmz} (hs : zoC b s) : zmw s.minute ∧ zn9 s.cols ∧ zn9 s.rows := by
  have h1 := h.wide; have h2 := h.deep; have h4 := h.last; have := hs.minute;exact ⟨⟨by omega, by omega⟩, zoY hs.cols (by omega), zoY hs.rows (by omega)⟩
theorem zrE {b : xb} (h : xv b) : ∀ l ∈ zo0 b, flat l := by
  have h1 := h.wide; have h2 := h.deep; have h3 := h.speed; have h4 := h.last;intro l hl;simp only [zo0, List.mem_cons, List.mem_map] at hl;rcases hl with rfl | ⟨x, hx, rfl⟩
  · exact K5 (by simp [flat, zof]) (k1 (by decide) (K5 (zmI ⟨by omega, by omega⟩) (k1 (by decide) (K5 (zmI ⟨by omega, by omega⟩) (k1 (by decide) (k1 (by decide) (K5 (zmI ⟨by omega, by omega⟩) (k1 (by decide) (k1 (by decide) (zmI ⟨by omega, by omega⟩))))))))))
  · refine K5 (by simp [flat, zoi]) (zot fun s hs => k1 (by decide) ?_);obtain ⟨g1, g2, g3⟩ := zpg h (h.sn hx hs);exact K5 (zmI g1) (k1 (by decide) (K5 (zpy g2) (k1 (by decide) (zpy g3))))
end Go.Bk
namespace Go.Bk
theorem J9 {c : UInt8} (r q : Bs) {p : Bs} (h : c ∉ p) : Lib.index (p ++ (c :: r ++ q)) (c :: r) = (p.length : Int) := by
  refine Lib.index_first (by simp) (by simp [Lib.occAt]) fun j hj => ?_;unfold Lib.occAt;rw [List.drop_append_of_le_length (by omega)];cases e : p.drop j with
  | nil => have := congrArg List.length e; simp at this; omega
  | cons d t =>
    have hd : d ∈ p := List.mem_of_mem_drop (by rw [e]; simp);have : (c == d) = false := by rw [beq_eq_false_iff_ne]; intro e'; exact h (e' ▸ hd)
    rw [List.cons_append, List.isPrefixOf_cons_cons, this, Bool.false_and]
theorem Ja {c : UInt8} (r : Bs) {s : Bs} (h : c ∉ s) : Lib.index s (c :: r) = -1 := by
  refine Lib.index_none fun j _ => ?_;unfold Lib.occAt;cases e : s.drop j with
  | nil => rfl
  | cons d t =>
    have hd : d ∈ s := List.mem_of_mem_drop (by rw [e]; simp);have : (c == d) = false := by rw [beq_eq_false_iff_ne]; intro e'; exact h (e' ▸ hd)
    rw [List.isPrefixOf_cons_cons, this, Bool.false_and]
theorem zr2 {c : UInt8} (r q : Bs) {p : Bs} (h : c ∉ p) : Lib.cut (p ++ (c :: r ++ q)) (c :: r) = (p, q, true) := by
  unfold Lib.cut;rw [J9 r q h, if_pos (by omega), Int.toNat_natCast];simp
theorem zwb {c : UInt8} (r : Bs) {s : Bs} (h : c ∉ s) : Lib.cut s (c :: r) = (s, [], false) := by
  unfold Lib.cut;rw [Ja r h, if_neg (by omega)]
theorem zn0 (p s : Bs) : Lib.trimPrefix (p ++ s) p = s := by
  unfold Lib.trimPrefix Lib.hasPrefix;rw [if_pos (by rw [List.isPrefixOf_iff_prefix]; exact List.prefix_append p s)]; simp
theorem zou (p s : Bs) : Lib.hasPrefix (p ++ s) p = true := by
  unfold Lib.hasPrefix;rw [List.isPrefixOf_iff_prefix]; exact List.prefix_append p s
def numP (s : Bs) : Option Int := match Lib.atoiAll (Lib.trimLeftS s [32]) with | .ok v => some v | _ => none
theorem znR (s : Bs) : Lib.trimLeftS s [32] = s.dropWhile (· == 32) := by
  unfold Lib.trimLeftS;congr 1;funext b;exact Lib.contains_one 32 b
theorem zst {n : Int} (h : zmw n) : Lib.atoiAll (num n) = .ok n := by
  obtain ⟨k, hk, rfl, e⟩ := h.nat;rw [e];exact ztQ ⟨k, hk⟩
theorem zmC {n : Int} (h : zmw n) : numP (num n) = some n := by
  unfold numP;have := zwO h [];simp only [List.append_nil] at this;rw [znR, this, zst h]
theorem zpj {n : Int} (h : zmw n) : numP (two n) = some n := by
  unfold numP;have := zxk h [];simp only [List.append_nil] at this;rw [znR, this, zst h]
theorem ztI (s : Bs) : numP (32 :: s) = numP s := by
  unfold numP;rw [znR, znR, List.dropWhile_cons, if_pos (by decide)]
def UA (s b : Bs) : Option (Int × Int) :=
  if (Lib.cut s b).2.2 = true then
    match numP (Lib.cut s b).1, numP (Lib.cut s b).2.1 with
    | some x, some y => some (x, y)
    | _, _ => none
  else none
theorem zpk {c : UInt8} {p q : Bs} {x y : Int} (h : c ∉ p) (hx : numP p = some x) (hy : numP q = some y) : UA (p ++ c :: q) [c] = some (x, y) := by
  unfold UA;have e : Lib.cut (p ++ c :: q) [c] = (p, q, true) := zr2 [] q h;rw [e, if_pos rfl, hx, hy]
def znW (s : Bs) : Option Sp :=
  match numP (Lib.cut s [46, 46]).1, numP (if (Lib.cut s [46, 46]).2.2 = true then (Lib.cut s [46, 46]).2.1 else (Lib.cut s [46, 46]).1) with
  | some x, some y => some ⟨x, y⟩
  | _, _ => none
theorem zoZ {s : Sp} (h : zn9 s) : znW (vX s) = some s := by
  have hc : (46 : UInt8) ∉ num s.lo := zmJ h.1 (by decide);unfold znW vX;by_cases e : s.lo = s.hi
  · rw [if_pos e, zwb [46] hc, if_neg (by simp), zmC h.1];cases s; simp only at e; subst e; rfl
  · rw [if_neg e, show num s.lo ++ 46 :: 46 :: num s.hi = num s.lo ++ ([46, 46] ++ num s.hi) from rfl, zr2 [46] _ hc, if_pos rfl, zmC h.1, zmC h.2]
def znv : Nat → Bs → Option (List Sp)
  | 0, _ => some []
  | n + 1, s => if s = [] then some [] else match UA (s.take 6) [45] with
    | none => none
    | some (a, b) => (znv n (s.drop 6)).map (⟨a, b⟩ :: ·)
def zmH (line w : Bs) : Option (List Sp) :=
  if Lib.hasPrefix line w = true ∧ (line.length - w.length) % 6 = 0 then znv (line.length + 1) (line.drop w.length) else none
theorem znL {x : Sp} (h : zn9 x) : (colT x).length = 6 := by
  unfold colT;simp [zni h.1, zni h.2]
theorem zwR {x : Sp} (h : zn9 x) : UA (colT x) [45] = some (x.lo, x.hi) := by
  have : colT x = (32 :: two x.lo) ++ 45 :: two x.hi := rfl
  rw [this];refine zpk ?_ (by rw [ztI, zpj h.1]) (zpj h.2);simp only [List.mem_cons, not_or];exact ⟨by decide, zvP h.1 (by decide) (by decide)⟩
theorem zsw : ∀ (l : List Sp) (n : Nat), l.length < n → (∀ x ∈ l, zn9 x) → znv n (l.flatMap colT) = some l
  | [], n + 1, _, _ => by simp [znv]
  | x :: l, n + 1, hn, h => by
    have hx := h x (by simp);have hl := znL hx;have ih := zsw l n (by simpa using hn) fun y hy => h y (by simp [hy]);rw [List.flatMap_cons, znv, if_neg (fun e => by have := congrArg List.length e; simp [hl] at this), List.take_append_of_le_length (by omega), List.take_of_length_le (by omega), zwR hx];simp only;rw [List.drop_append_of_le_length (by omega), List.drop_of_length_le (by omega), List.nil_append, ih];rfl
theorem zsx : ∀ (l : List Sp), (∀ x ∈ l, zn9 x) → (l.flatMap colT).length = 6 * l.length
  | [], _ => rfl
  | x :: l, h => by
    rw [List.flatMap_cons, List.length_append, znL (h x (by simp)), zsx l fun y hy => h y (by simp [hy])];simp; omega
theorem zps {w : Bs} {l : List Sp} (h : ∀ x ∈ l, zn9 x) : zmH (znl w l) w = some l := by
  unfold zmH znl;have hl := zsx l h;rw [if_pos ⟨zou _ _, by rw [List.length_append, hl]; omega⟩, List.drop_append_of_le_length (by omega), List.drop_of_length_le (by omega), List.nil_append];exact zsw l _ (by rw [List.length_append, hl]; omega) h
def zmK {α : Type} (take : Bs → Option α) : Nat → Bs → Option (List α)
  | 0, _ => some []
  | _ + 1, [] => some []
  | n + 1, c :: r => if c = 32 then match take (r.takeWhile (· != 32)) with
      | none => none
      | some x => (zmK take n (r.dropWhile (· != 32))).map (x :: ·)
    else none
def znm {α : Type} (take : Bs → Option α) (line w : Bs) : Option (List α) :=
  if Lib.hasPrefix line w = true then zmK take (line.length + 1) (line.drop w.length) else none
theorem zvt {c : UInt8} : ∀ {p : Bs} (q : Bs), c ∉ p → (q = [] ∨ ∃ t, q = c :: t) → (p ++ q).takeWhile (· != c) = p ∧ (p ++ q).dropWhile (· != c) = q
  | [], q, _, h => by
    rcases h with rfl | ⟨t, rfl⟩
    · exact ⟨rfl, rfl⟩
    · simp
  | d :: p, q, hp, h => by
    have hd : (d != c) = true := by simp; exact fun e => hp (by simp [e])
    obtain ⟨h1, h2⟩ := zvt q (fun hm => hp (List.mem_cons_of_mem _ hm)) h;rw [List.cons_append, List.takeWhile_cons, List.dropWhile_cons, if_pos hd, if_pos hd, h1, h2];exact ⟨rfl, rfl⟩
theorem zrv {α : Type} {take : Bs → Option α} {f : α → Bs} : ∀ (l : List α) (n : Nat), l.length < n → (∀ x ∈ l, (32 : UInt8) ∉ f x ∧ take (f x) = some x) → zmK take n (l.flatMap fun x => 32 :: f x) = some l
  | [], n + 1, _, _ => rfl
  | x :: l, n + 1, hn, h => by
    obtain ⟨h1, h2⟩ := h x (by simp);have ih := zrv l n (by simpa using hn) fun y hy => h y (by simp [hy]);have hs := zvt (p := f x) (c := 32) (l.flatMap fun x => 32 :: f x) h1 (by cases l <;> simp);rw [List.flatMap_cons, List.cons_append, zmK, if_pos rfl, hs.1, hs.2, h2, ih];rfl
theorem zr5 {α : Type} (f : α → Bs) : ∀ l : List α, l.length ≤ (l.flatMap fun x => 32 :: f x).length
  | [] => by simp
  | x :: l => by
    have := zr5 f l;simp only [List.flatMap_cons, List.length_append, List.length_cons]; omega
theorem zqy {α : Type} {take : Bs → Option α} {f : α → Bs} {w : Bs} {l : List α} (h : ∀ x ∈ l, (32 : UInt8) ∉ f x ∧ take (f x) = some x) : znm take (behind w f l) w = some l := by
  unfold znm behind;rw [if_pos (zou _ _), List.drop_append_of_le_length (by omega), List.drop_of_length_le (by omega), List.nil_append];have := zr5 f l;exact zrv l _ (by simp only [List.length_append]; omega) h
def zmX {X : Type} (take : X → Nat → Bs → Option X) : X → Nat → List Bs → Option X
  | x, _, [] => some x
  | x, k, l :: ls => match take x k l with
    | none => none
    | some y => zmX take y (k + 1) ls
def zmY {X : Type} (z : X) (take : X → Nat → Bs → Option X) (is : X → Bool) (put : X → Bs) (s : Bs) : X × Int :=
  if 1200 < s.length then (z, 3) else match zmX take z 0 (lns s) with
    | none => (z, 8)
    | some x => if is x = true ∧ put x = s then (x, 0) else (z, 8)
def zo7 : Surf := ⟨0, 0, [], [], []⟩
def zmV (x : Surf) (k : Nat) (l : Bs) : Option Surf :=
  match k with
  | 0 => (UA (Lib.trimPrefix l zpf) [120]).map fun p => { x with rows := p.1, step := p.2 }
  | 1 => (zmH l zo9).map fun c => { x with water := c }
  | 2 => (zmH l zoh).map fun c => { x with waves := c }
  | _ => if l.length = 11 then
      match numP ((l.drop 4).take 2), numP ((l.drop 7).take 2), numP (l.drop 10) with
      | some a, some b, some c => some { x with huts := x.huts ++ [⟨a, b, c⟩] }
      | _, _, _ => none
    else none
def zod : Flag := ⟨0, 0, 0, [], []⟩
def ztx (s : Bs) : Option zoq :=
  match (match s.drop (Lib.trimRightS s [63, 33]).length with | [] => some 0 | [63] => some 1 | [33] => some 2 | _ => (none : Option Int)), znW (Lib.trimRightS s [63, 33]) with
  | some t, some w => some ⟨w, t⟩
  | _, _ => none
def zpA (s : Bs) : Option zoD :=
  (numP (Lib.trimSuffix (Lib.trimSuffix s [43]) [45])).map fun n => ⟨n, Lib.hasSuffix s [43]⟩
def znw (x : Flag) (k : Nat) (l : Bs) : Option Flag :=
  match k with
  | 0 => if (Lib.cut (Lib.trimPrefix l zoc) [45]).2.2 = true then
      match numP (Lib.cut (Lib.trimPrefix l zoc) [45]).1, UA (Lib.cut (Lib.trimPrefix l zoc) [45]).2.1 [47] with
      | some a, some p => some { x with low := a, high := p.1, quiet := p.2 }
      | _, _ => none
    else none
  | 1 => (znm ztx l zo1).map fun h => { x with hours := h }
  | 2 => (znm zpA l zpW).map fun h => { x with seen := h }
  | _ => none
def znj : xb := ⟨0, 0, 0, 0, []⟩
def znz (s : Bs) : Option zmz :=
  if (Lib.cut s [64]).2.2 = true ∧ (Lib.cut (Lib.cut s [64]).2.1 [44]).2.2 = true then
    match numP (Lib.cut s [64]).1, znW (Lib.cut (Lib.cut s [64]).2.1 [44]).1, znW (Lib.cut (Lib.cut s [64]).2.1 [44]).2.1 with
    | some m, some c, some r => some ⟨m, c, r⟩
    | _, _, _ => none
  else none
def zn2 (x : xb) (k : Nat) (l : Bs) : Option xb :=
  match k with
  | 0 => match Lib.split l [32] with
    | [_, a, b, c] => match UA a [120], numP (Lib.trimPrefix b [118]), numP (Lib.trimPrefix c [116]) with
      | some p, some u, some v => some { x with wide := p.1, deep := p.2, speed := u, last := v }
      | _, _, _ => none
    | _ => none
  | _ => (znm znz l zoi).map fun h => { x with seen := x.seen ++ [h] }
theorem zqo {X α : Type} {take : X → Nat → Bs → Option X} {f : α → Bs} {g : X → α → X} {k0 : Nat} : ∀ (l : List α) (x : X) (k : Nat), k0 ≤ k → (∀ y ∈ l, ∀ x k, k0 ≤ k → take x k (f y) = some (g x y)) → zmX take x k (l.map f) = some (l.foldl g x)
  | [], _, _, _, _ => rfl
  | y :: l, x, k, hk, h => by
    rw [List.map_cons, zmX, h y (by simp) x k hk];exact zqo l _ _ (by omega) fun z hz => h z (by simp [hz])
theorem zvA {s : Surf} (h : zmo s) : zmX zmV zo7 0 (zpM s) = some s := by
  have h1 := h.rows; have h2 := h.step
  have e0 : ∀ x, zmV x 0 (zsi s) = some { x with rows := s.rows, step := s.step } := fun x => by
    unfold zmV zsi;simp only;rw [zn0, zpk (zmJ ⟨by omega, by omega⟩ (by decide)) (zmC ⟨by omega, by omega⟩) (zmC ⟨by omega, by omega⟩)];rfl
  have e1 : ∀ x, zmV x 1 (znl zo9 s.water) = some { x with water := s.water } := fun x => by
    unfold zmV;simp only;rw [zps fun y hy => zoY (h.water y hy).1 (by omega)];rfl
  have e2 : ∀ x, zmV x 2 (znl zoh s.waves) = some { x with waves := s.waves } := fun x => by
    unfold zmV;simp only;rw [zps fun y hy => zoY (h.waves y hy).1 (by omega)];rfl
  have e3 : ∀ y ∈ s.huts, ∀ (x : Surf) k, 3 ≤ k → zmV x k (hutT y) = some { x with huts := x.huts ++ [y] } := fun y hy x k hk => by
    have hh := h.huts y hy;have f1 : zmw y.floor := ⟨by omega, by omega⟩;have f2 : zmw y.brake := ⟨by omega, by omega⟩;have f3 : zmw y.row := ⟨by omega, by omega⟩;obtain ⟨r, hr, er⟩ : ∃ r : Nat, r < 10 ∧ y.row = (r : Int) := ⟨y.row.toNat, by omega, by omega⟩
    have l3 : (num y.row).length = 1 := by
      rw [er, zrj (by omega)]; unfold small; rw [if_pos hr]; rfl
    have t1 := zni f1; have t2 := zni f2;obtain ⟨k, rfl⟩ : ∃ j, k = j + 3 := ⟨k - 3, by omega⟩;have d4 : (hutT y).drop 4 = two y.floor ++ 32 :: (two y.brake ++ 32 :: num y.row) := rfl
    have d7 : (hutT y).drop 7 = two y.brake ++ 32 :: num y.row := by
      rw [show (7 : Nat) = 4 + 3 from rfl, ← List.drop_drop, d4, show (3 : Nat) = 2 + 1 from rfl, ← List.drop_drop, List.drop_append_of_le_length (by omega), List.drop_of_length_le (l := two y.floor) (by omega)];rfl
    have d10 : (hutT y).drop 10 = num y.row := by
      rw [show (10 : Nat) = 7 + 3 from rfl, ← List.drop_drop, d7, show (3 : Nat) = 2 + 1 from rfl, ← List.drop_drop, List.drop_append_of_le_length (by omega), List.drop_of_length_le (l := two y.brake) (by omega)];rfl
    have hl : (hutT y).length = 11 := by
      simp [hutT, hutW, t1, t2, l3]
    unfold zmV;simp only;rw [if_pos hl, d4, d7, d10, List.take_append_of_le_length (by omega), List.take_of_length_le (by omega), List.take_append_of_le_length (by omega), List.take_of_length_le (l := two y.brake) (by omega), zpj f1, zpj f2, zmC f3]
  unfold zpM;simp only [zmX, e0, e1, e2];rw [zqo (k0 := 3) _ _ _ (by omega) e3]
  have hg : ∀ (l : List Hut) (x : Surf), l.foldl (fun (x : Surf) y => { x with huts := x.huts ++ [y] }) x = { x with huts := x.huts ++ l } := by
    intro l
    induction l with
    | nil => intro x; simp
    | cons y l ih => intro x; rw [List.foldl_cons, ih]; simp
  rw [hg];cases s
  rfl
theorem zuf {b : UInt8} (h : dig b = true) : ([63, 33] : Bs).contains b = false := by
  have : ∀ b : Fin 256, dig (UInt8.ofNat b.val) = true → ([63, 33] : Bs).contains (UInt8.ofNat b.val) = false := by decide +kernel
  have := this ⟨b.toNat, b.toNat_lt⟩;simp only [UInt8.ofNat_toNat] at this;exact this h
theorem zvu {s : Sp} (h : zn9 s) : ∃ t c, vX s = t ++ [c] ∧ dig c = true := by
  have key : ∀ {n : Int}, zmw n → ∃ t c, num n = t ++ [c] ∧ dig c = true := fun {n} hn => by
    have h1 := (KT hn).1;have hne : num n ≠ [] := fun e => by rw [e] at h1; simp at h1
    refine ⟨(num n).dropLast, (num n).getLast hne, (List.dropLast_concat_getLast hne).symm, zs4 hn _ (List.getLast_mem hne)⟩
  unfold vX;split
  · exact key h.1
  · obtain ⟨t, c, e, hc⟩ := key h.2;exact ⟨num s.lo ++ 46 :: 46 :: t, c, by rw [e]; simp, hc⟩
theorem zpX {s : Sp} (h : zn9 s) {t : Int} (ht : 0 ≤ t ∧ t ≤ 2) : Lib.trimRightS (vX s ++ markT t) [63, 33] = vX s := by
  obtain ⟨r, c, e, hc⟩ := zvu h
  have h0 : Lib.trimRightS (vX s) [63, 33] = vX s := by
    unfold Lib.trimRightS;rw [e, List.reverse_append, List.reverse_singleton, List.singleton_append, List.dropWhile_cons, if_neg (by rw [zuf hc]; simp)];simp
  unfold markT;split
  · unfold Lib.trimRightS at h0 ⊢;rw [List.reverse_append, List.reverse_singleton, List.singleton_append, List.dropWhile_cons, if_pos (by decide)];exact h0
  · split
    · unfold Lib.trimRightS at h0 ⊢;rw [List.reverse_append, List.reverse_singleton, List.singleton_append, List.dropWhile_cons, if_pos (by decide)];exact h0
    · rw [List.append_nil]; exact h0
theorem zty {h : zoq} (hw : zn9 h.wind) (ht : 0 ≤ h.thunder ∧ h.thunder ≤ 2) : ztx (zok h) = some h := by
  unfold ztx zok;rw [zpX hw ht, List.drop_append_of_le_length (by omega), List.drop_of_length_le (by omega), List.nil_append, zoZ hw];obtain ⟨w, t⟩ := h;simp only at ht;have : t = 0 ∨ t = 1 ∨ t = 2 := by omega
  rcases this with rfl | rfl | rfl <;> rfl
theorem zrO {s : zoD} (h : zmw s.hour) : zpA (znV s) = some s := by
  obtain ⟨n, up⟩ := s
  have hk : ∀ {c : UInt8}, dig c = false → Lib.hasSuffix (num n) [c] = false := fun {c} hc => by
    unfold Lib.hasSuffix;rw [Bool.eq_false_iff];intro hs;rw [List.isSuffixOf_iff_suffix] at hs;obtain ⟨t, ht⟩ := hs;exact zmJ h hc (by simp only; rw [← ht]; simp)
  unfold zpA znV;cases up with
  | true =>
    have e1 : Lib.hasSuffix (num n ++ [43]) [43] = true := by
      unfold Lib.hasSuffix; rw [List.isSuffixOf_iff_suffix]; exact List.suffix_append _ _
    simp only [if_true];rw [zny, e1];unfold Lib.trimSuffix;rw [hk (by decide), if_neg (by simp), zmC h]; rfl
  | false =>
    have e1 : Lib.hasSuffix (num n ++ [45]) [43] = false := by
      unfold Lib.hasSuffix;rw [Bool.eq_false_iff];intro hs;rw [List.isSuffixOf_iff_suffix] at hs;obtain ⟨t, ht⟩ := hs;have := List.append_inj_right' ht rfl;simp at this
    have e2 : Lib.trimSuffix (num n ++ [45]) [43] = num n ++ [45] := by
      unfold Lib.trimSuffix; rw [if_neg (by rw [e1]; simp)]
    simp only [Bool.false_eq_true, if_false];rw [e2, e1, zny, zmC h]; rfl
theorem zpn {s : Sp} (h : zn9 s) {c : UInt8} (hc : dig c = false) (hd : c ≠ 46) : c ∉ vX s := by
  unfold vX;split
  · exact zmJ h.1 hc
  · simp only [List.mem_append, List.mem_cons, not_or];exact ⟨zmJ h.1 hc, hd, hd, zmJ h.2 hc⟩
theorem zwK (t : Int) {c : UInt8} (h1 : c ≠ 63) (h2 : c ≠ 33) : c ∉ markT t := by
  unfold markT;split
  · simp [h1]
  · split <;> simp [h2]
theorem zuk {f : Flag} (h : zmp f) : zmX znw zod 0 (zpT f) = some f := by
  have h1 := h.low; have h2 := h.quiet; have h3 := h.nhours
  have e0 : ∀ x, znw x 0 (zrL f) = some { x with low := f.low, high := f.high, quiet := f.quiet } := fun x => by
    unfold znw zrL;simp only;rw [zn0];have e : Lib.cut (num f.low ++ 45 :: (num f.high ++ 47 :: num f.quiet)) [45] = (num f.low, num f.high ++ 47 :: num f.quiet, true) := zr2 [] _ (zmJ ⟨by omega, by omega⟩ (by decide));rw [e, if_pos rfl, zmC ⟨by omega, by omega⟩, zpk (zmJ ⟨by omega, by omega⟩ (by decide)) (zmC ⟨by omega, by omega⟩) (zmC ⟨by omega, by omega⟩)]
  have e1 : ∀ x, znw x 1 (behind zo1 zok f.hours) = some { x with hours := f.hours } := fun x => by
    unfold znw;simp only;rw [zqy fun y hy => ?_]
    · rfl
    · have hy' := h.hours y hy;have hs := zoY hy'.1 (by omega);refine ⟨?_, zty hs hy'.2⟩;unfold zok;simp only [List.mem_append, not_or];exact ⟨zpn hs (by decide) (by decide), zwK _ (by decide) (by decide)⟩
  have e2 : ∀ x, znw x 2 (behind zpW znV f.seen) = some { x with seen := f.seen } := fun x => by
    unfold znw;simp only;rw [zqy fun y hy => ?_]
    · rfl
    · have hy' := h.seen y hy;have hn : zmw y.hour := ⟨by omega, by omega⟩;refine ⟨?_, zrO hn⟩;unfold znV;simp only [List.mem_append, not_or];refine ⟨zmJ hn (by decide), ?_⟩;split <;> simp
  unfold zpT;simp only [zmX, e0, e1, e2]
theorem zrH {s : zmz} (h1 : zmw s.minute) (h2 : zn9 s.cols) (h3 : zn9 s.rows) : znz (zn5 s) = some s := by
  unfold znz zn5;have e : Lib.cut (num s.minute ++ 64 :: (vX s.cols ++ 44 :: vX s.rows)) [64] = (num s.minute, vX s.cols ++ 44 :: vX s.rows, true) := zr2 [] _ (zmJ h1 (by decide));have e' : Lib.cut (vX s.cols ++ 44 :: vX s.rows) [44] = (vX s.cols, vX s.rows, true) := zr2 [] _ (zpn h2 (by decide) (by decide));rw [e];simp only;rw [e', if_pos (by simp), zmC h1, zoZ h2, zoZ h3]
theorem uN {p : Bs} (q : Bs) (h : (32 : UInt8) ∉ p) : Lib.split (p ++ 32 :: q) [32] = p :: Lib.split q [32] := by
  have hi : Lib.index (p ++ 32 :: q) [32] = (p.length : Int) := J9 [] q h;have hc := Lib.count_hit (s := p ++ 32 :: q) (sub := [32]) (by simp) hi
  have hd : (p ++ 32 :: q).drop (p.length + 1) = q := by
    rw [← List.drop_drop, List.drop_append_of_le_length (by omega), List.drop_of_length_le (l := p) (by omega)]; rfl
  unfold Lib.split;rw [hc, Nat.add_comm, Lib.splitK, if_neg (by rw [hi, beq_iff_eq]; omega), hi, Int.toNat_natCast];simp only [List.length_singleton, Nat.add_zero];rw [hd, List.take_append_of_le_length (by omega), List.take_of_length_le (by omega)]
theorem je {p : Bs} (h : (32 : UInt8) ∉ p) : Lib.split p [32] = [p] := by
  unfold Lib.split;rw [Lib.count_miss (Ja [] h)];rfl
theorem ztr {b : xb} (h : xv b) : zmX zn2 znj 0 (zo0 b) = some b := by
  have h1 := h.wide; have h2 := h.deep; have h3 := h.speed; have h4 := h.last
  have e0 : ∀ x, zn2 x 0 (zpr b) = some { x with wide := b.wide, deep := b.deep, speed := b.speed, last := b.last } := fun x => by
    have w1 : zmw b.wide := ⟨by omega, by omega⟩;have w2 : zmw b.deep := ⟨by omega, by omega⟩;have w3 : zmw b.speed := ⟨by omega, by omega⟩;have w4 : zmw b.last := ⟨by omega, by omega⟩;unfold zn2 zpr;simp only
    have e : Lib.split (zof ++ 32 :: (num b.wide ++ 120 :: (num b.deep ++ 32 :: 118 :: (num b.speed ++ 32 :: 116 :: num b.last)))) [32] = [zof, num b.wide ++ 120 :: num b.deep, 118 :: num b.speed, 116 :: num b.last] := by
      rw [uN _ (by simp [zof])];have a1 : num b.wide ++ 120 :: (num b.deep ++ 32 :: 118 :: (num b.speed ++ 32 :: 116 :: num b.last)) = (num b.wide ++ 120 :: num b.deep) ++ 32 :: ((118 :: num b.speed) ++ 32 :: (116 :: num b.last)) := by simp
      rw [a1, uN _ (by simp [zmJ w1 (c := 32) (by decide), zmJ w2 (c := 32) (by decide)]), uN _ (by simp [zmJ w3 (c := 32) (by decide)]), je (by simp [zmJ w4 (c := 32) (by decide)])]
    rw [e];simp only;rw [zpk (zmJ w1 (by decide)) (zmC w1) (zmC w2), show (118 : UInt8) :: num b.speed = [118] ++ num b.speed from rfl, show (116 : UInt8) :: num b.last = [116] ++ num b.last from rfl, zn0, zn0, zmC w3, zmC w4]
  have e1 : ∀ y ∈ b.seen, ∀ (x : xb) k, 1 ≤ k → zn2 x k (behind zoi zn5 y) = some { x with seen := x.seen ++ [y] } := fun y hy x k hk => by
    obtain ⟨k, rfl⟩ : ∃ j, k = j + 1 := ⟨k - 1, by omega⟩;unfold zn2;simp only;rw [zqy fun s hs => ?_]
    · rfl
    · obtain ⟨g1, g2, g3⟩ := zpg h (h.sn hy hs);refine ⟨?_, zrH g1 g2 g3⟩;unfold zn5;simp only [List.mem_append, List.mem_cons, not_or];exact ⟨zmJ g1 (by decide), by decide, zpn g2 (by decide) (by decide), by decide, zpn g3 (by decide) (by decide)⟩
  unfold zo0;simp only [zmX, e0];rw [zqo (k0 := 1) _ _ _ (by omega) e1]
  have hg : ∀ (l : List (List zmz)) (x : xb), l.foldl (fun (x : xb) y => { x with seen := x.seen ++ [y] }) x = { x with seen := x.seen ++ l } := by
    intro l
    induction l with
    | nil => intro x; simp
    | cons y l ih => intro x; rw [List.foldl_cons, ih]; simp
  rw [hg];cases b
  rfl
section
variable {X : Type} {z : X} {take : X → Nat → Bs → Option X} {is : X → Bool} {put : X → Bs}
include X z take is put
theorem zpJ {L : X → List Bs} (hput : ∀ x, put x = unl (L x)) (hflat : ∀ x, is x = true → ∀ l ∈ L x, flat l) (hback : ∀ x, is x = true → zmX take z 0 (L x) = some x) 
    {x : X} (hx : is x = true) (hl : (put x).length ≤ 1200) : zmY z take is put (put x) = (x, 0) := by
  unfold zmY;rw [if_neg (by omega), hput, zuN _ (hflat x hx), hback x hx];simp only;rw [if_pos ⟨hx, hput x⟩]
theorem zwW {s : Bs} {x : X} (h : zmY z take is put s = (x, 0)) : is x = true ∧ put x = s ∧ s.length ≤ 1200 := by
  unfold zmY at h;split at h
  · cases h
  · split at h
    · cases h
    · split at h
      · rename_i hl _ _ _ hc
        cases h
        exact ⟨hc.1, hc.2, by omega⟩
      · cases h
theorem zwV {s : Bs} (h : (zmY z take is put s).2 ≠ 0) : zmY z take is put s = (z, if 1200 < s.length then 3 else 8) := by
  unfold zmY at h ⊢;split
  · rfl
  · split
    · rfl
    · split
      · rename_i hl _ _ e hc
        rw [if_neg hl, e] at h;simp only [hc, and_self, if_true] at h;exact absurd rfl h
      · rfl
theorem zvj {s : Bs} (h : (zmY z take is put s).2 = 0) : ∃ x, zmY z take is put s = (x, 0) := ⟨(zmY z take is put s).1, Prod.ext rfl h⟩
end
abbrev zqL (s : Bs) : Surf × Int := zmY zo7 zmV zn8 zmO s
abbrev zqJ (s : Bs) : Flag × Int := zmY zod znw znf zmN s
abbrev zpI (s : Bs) : xb × Int := zmY znj zn2 zmD zmu s
theorem zro {x : Surf} (hx : zn8 x = true) (hl : (zmO x).length ≤ 1200) : zqL (zmO x) = (x, 0) :=
  zpJ (L := zpM) (fun _ => rfl) (fun _ h => ztR (qa.1 h)) (fun _ h => zvA (qa.1 h)) hx hl
theorem zrn {x : Flag} (hx : znf x = true) (hl : (zmN x).length ≤ 1200) : zqJ (zmN x) = (x, 0) :=
  zpJ (L := zpT) (fun _ => rfl) (fun _ h => ztv (qc.1 h)) (fun _ h => zuk (qc.1 h)) hx hl
theorem zqI {x : xb} (hx : zmD x = true) (hl : (zmu x).length ≤ 1200) : zpI (zmu x) = (x, 0) :=
  zpJ (L := zo0) (fun _ => rfl) (fun _ h => zrE (ww.1 h)) (fun _ h => ztr (ww.1 h)) hx hl
end Go.Bk
namespace Go.Bk
def Stop (t : Bs) : Prop := ∀ c r, t = c :: r → dig c = false
end Go.Bk
namespace Go.Proofs.YtaiegbjgfdhgaaaGreatDoor
open Go.W Go.Bk
theorem zdj {P : Program} {name : String} {w : World} {n : Nat} {cs : Array Value} {t : TypeId} {fz : Nat × Nat} (hg : P.globalNamed name = some n) (h : w.heap[n]? = some (.cells cs t fz)) : w.var? P name = some cs := by
  unfold World.var?;rw [hg];simp [h]
structure LibD (kM : Bool) (D : Imm) : Prop where
  marks : kM = true → ∃ t fz, D 0 = some (.cells (List.toArray [st [], st [63], st [33]]) t fz)
  maxLen : ∃ (m : Int) (r : List Value) (t : TypeId) (fz : Nat × Nat), D 2 = some (.cells (List.toArray (it m :: r)) t fz)
  syn : ∃ (tp : TypeId) (p : Value) (t : TypeId) (fz : Nat × Nat), D 3 = some (.cells (List.toArray [.iface tp p]) t fz)
  rng : ∃ (tp : TypeId) (p : Value) (t : TypeId) (fz : Nat × Nat), D 4 = some (.cells (List.toArray [.iface tp p]) t fz)
  pow : ∃ t fz, D 6 = some (.cells (Lib.pow10Tab.map fun z => Value.int .u64 z).toArray t fz)
theorem LibD.ext {kM : Bool} {w : World} {D D' : Imm} (hD : DExt w D D') (h : LibD kM D) : LibD kM D' :=
  ⟨fun hk => let ⟨t, fz, e⟩ := h.marks hk; ⟨t, fz, hD.old _ _ e⟩, let ⟨m, r, t, fz, e⟩ := h.maxLen; ⟨m, r, t, fz, hD.old _ _ e⟩, let ⟨a, b, t, fz, e⟩ := h.syn; ⟨a, b, t, fz, hD.old _ _ e⟩, let ⟨a, b, t, fz, e⟩ := h.rng; ⟨a, b, t, fz, hD.old _ _ e⟩, let ⟨t, fz, e⟩ := h.pow; ⟨t, fz, hD.old _ _ e⟩⟩
theorem LibD.max {kM : Bool} {D : Imm} (h : LibD kM D) {w : World} (hH : Holds D w) : ∃ m : Int, w.cell? ⟨2, 0, none⟩ = some (.int .i64 m) := by
  obtain ⟨m, r, t, fz, e⟩ := h.maxLen;exact ⟨m, by have := hH _ _ e; simp [World.cell?, this]⟩
theorem cell0 {D : Imm} {g : Nat} {v : Value} {r : List Value} {t : TypeId} {fz : Nat × Nat} (e : D g = some (.cells (List.toArray (v :: r)) t fz)) {w : World} (hH : Holds D w) : w.cell? ⟨g, 0, none⟩ = some v := by
  have := hH _ _ e;simp [World.cell?, this]
def i64B (n : Int) : Prop := -9223372036854775808 ≤ n ∧ n ≤ 9223372036854775807
theorem Xw (n : Int) (hn : i64B n) (D : Imm) {kM : Bool} (hL : LibD kM D) (w : World) (hH : Holds D w) : z8 Tryz.prog 184 [it n] w (st (num n)) := by
  obtain ⟨t, fz, e⟩ := hL.pow;exact (Any.strconv_Itoa Jg n hn.1 hn.2 w (zdj zk (hH _ _ e))).mono fun e' w' ⟨h1, k, os, h2⟩ => ⟨h1, h2 ▸ Keep.grow w k os⟩
theorem za0 (s : Bs) (hs : s.length ≤ 2 ^ 40) (v : Int) (h : Lib.atoiAll s = .ok v) (w : World) : z8 Tryz.prog 188 [st s] w (.tuple #[it v, .nilIface]) :=
  (Any.strconv_Atoi_ok ky ⟨s.toArray⟩ (by rw [wk]; omega) v h w).mono fun e' w' ⟨h1, h2⟩ => ⟨h1, by
    rcases h2 with rfl | ⟨t, rfl⟩
    · exact Keep.refl _ _
    exact Keep.of_below (Lib.bytesWorld_below w _ _)⟩
theorem KZ (s : Bs) (hs : s.length ≤ 2 ^ 40) (h : ∀ v, Lib.atoiAll s ≠ .ok v) (D : Imm) {kM : Bool} (hL : LibD kM D) (w : World) (hH : Holds D w) : News Tryz.prog 188 [st s] w D (fun v _ h' => h' = [] ∧ ∃ z tt p, v = .tuple #[it z, .iface tt p]) := by
  have fin : ∀ {w' : World}, RowKit.Below w.heap.size w w' → Inv D [] [] w w' := fun hb => (Inv.start hH).call (Keep.of_below hb);rcases e : Lib.atoiAll s with v | _ | _
  · exact absurd e (h v)
  · obtain ⟨tp, p, t, fz, e2⟩ := hL.syn;exact (Any.strconv_Atoi_syntax ky ⟨s.toArray⟩ (by rw [wk]; omega) e (.iface tp p) w (cell0 e2 hH) (.inr ⟨_, _, rfl⟩)).mono fun e' w' ⟨N, h1, _, _, h4⟩ => ⟨_, D, [], h1, DExt.refl _ _, fin h4, rfl, _, _, _, rfl⟩
  obtain ⟨tp, p, t, fz, e2⟩ := hL.rng;exact (Any.strconv_Atoi_range ky ⟨s.toArray⟩ (by rw [wk]; omega) e (.iface tp p) w (cell0 e2 hH) (.inr ⟨_, _, rfl⟩)).mono fun e' w' ⟨N, h1, _, _, h4⟩ => ⟨_, D, [], h1, DExt.refl _ _, fin h4, rfl, _, _, _, rfl⟩
theorem zvK (s : Bs) (w : World) : z8 Tryz.prog 189 [st s, st [32]] w (st (Lib.trimLeftS s [32])) := by
  rw [Lib.trimLeftS_one];exact (Any.strings_TrimLeft_one zyJ ⟨s.toArray⟩ 32 (by decide) w).mono fun e' w' ⟨h1, h2⟩ => ⟨h1, h2 ▸ Keep.refl _ _⟩
theorem zzp (s : Bs) (hs : s.length ≤ 2 ^ 40) (w : World) : z8 Tryz.prog 143 [st s, st [63, 33]] w (st (Lib.trimRightS s [63, 33])) :=
  (Any.strings_TrimRight_laid zyK zk ⟨s.toArray⟩ ⟨List.toArray [63, 33]⟩ w (by rw [wk]; omega) (by rw [wk]; decide) (fun j b hb => by
    have : b ∈ ([63, 33] : Bs) := List.mem_of_getElem? hb
    simp at this;rcases this with rfl | rfl <;> decide)).mono fun e' w' ⟨h1, h2⟩ => ⟨h1, Keep.of_below h2⟩
theorem zuc (s sep : Bs) (hs : s.length ≤ 2 ^ 20) (D : Imm) {kM : Bool} (hL : LibD kM D) (w : World) (hH : Holds D w) : z8 Tryz.prog 140 [st s, st sep] w (.tuple #[st (Lib.cut s sep).1, st (Lib.cut s sep).2.1, .bool (Lib.cut s sep).2.2]) := by
  obtain ⟨m, hm⟩ := hL.max hH;exact (Any.strings_Cut zyI ⟨s.toArray⟩ ⟨sep.toArray⟩ m w (by rw [wk]; omega) hm).mono fun e' w' ⟨h1, n, h2⟩ => ⟨h1, h2 ▸ Keep.drewN w n⟩
theorem zqT (s p : Bs) (w : World) : z8 Tryz.prog 134 [st s, st p] w (st (Lib.trimPrefix s p)) :=
  (Any.strings_TrimPrefix zyD ⟨s.toArray⟩ ⟨p.toArray⟩ w).mono fun e' w' ⟨h1, h2⟩ => ⟨h1, h2 ▸ Keep.refl _ _⟩
theorem zvM (s p : Bs) (hs : s.length ≤ 2 ^ 40) (w : World) : z8 Tryz.prog 149 [st s, st p] w (st (Lib.trimSuffix s p)) :=
  (Any.strings_TrimSuffix zyE ⟨s.toArray⟩ ⟨p.toArray⟩ w (by rw [wk]; omega)).mono fun e' w' ⟨h1, h2⟩ => ⟨h1, h2 ▸ Keep.refl _ _⟩
theorem zpv (s p : Bs) (w : World) : z8 Tryz.prog 187 [st s, st p] w (.tuple #[st (Lib.trimPrefix s p), .bool (Lib.hasPrefix s p)]) :=
  (Any.strings_CutPrefix zyF ⟨s.toArray⟩ ⟨p.toArray⟩ w).mono fun e' w' ⟨h1, h2⟩ => ⟨h1, h2 ▸ Keep.refl _ _⟩
theorem zAg (s p : Bs) (hs : s.length ≤ 2 ^ 40) (w : World) : z8 Tryz.prog 148 [st s, st p] w (.tuple #[st (Lib.trimSuffix s p), .bool (Lib.hasSuffix s p)]) :=
  (Any.strings_CutSuffix zyG ⟨s.toArray⟩ ⟨p.toArray⟩ w (by rw [wk]; omega)).mono fun e' w' ⟨h1, h2⟩ => ⟨h1, h2 ▸ Keep.refl _ _⟩
theorem zAz (s : Bs) (c : UInt8) (w : World) : z8 Tryz.prog 224 [st s, .int .u8 (c.toNat : Int)] w (it (Lib.indexByte s c)) :=
  (Any.strings_IndexByte zyH ⟨s.toArray⟩ (c.toNat : Int) w).mono fun e' w' ⟨h1, h2⟩ => ⟨by simpa using h1, h2 ▸ Keep.refl _ _⟩
theorem zzg (s : Bs) (c : UInt8) (hs : s.length ≤ 2 ^ 20) (D : Imm) {kM : Bool} (hL : LibD kM D) (w : World) (hH : Holds D w) : y6 Tryz.prog 153 [st s, st [c]] w D (fun v D' => ∃ a n cp, v = .slice a n cp ∧ SlL D' 1 ((Lib.split s [c]).map fun p => [st p]) a n) := by
  obtain ⟨m, hm⟩ := hL.max hH;refine (Any.strings_Split zay zk ⟨s.toArray⟩ ⟨List.toArray [c]⟩ m w (by rw [wk]; omega) hm (by rw [wk]; simp)).mono fun e' w' ⟨h1, h2⟩ => ?_;subst h2;have hI := (Inv.start hH).new (.cells ((Lib.splitB ⟨List.toArray [c]⟩ 0 (Lib.countB ⟨s.toArray⟩ ⟨List.toArray [c]⟩) ⟨s.toArray⟩).map Value.string).toArray 9)
  have hlen : (Lib.split s [c]).length = Lib.countB ⟨s.toArray⟩ ⟨List.toArray [c]⟩ + 1 := by
    have := Lib.splitB_all ⟨List.toArray [c]⟩ (by rw [wk]; simp) 0 _ ⟨s.toArray⟩ rfl;have h3 := congrArg List.length (Lib.splitB_data ⟨List.toArray [c]⟩ 0 (Lib.countB ⟨s.toArray⟩ ⟨List.toArray [c]⟩) ⟨s.toArray⟩);rw [List.length_map, this] at h3;exact h3.symm
  have hd : (Lib.splitB ⟨List.toArray [c]⟩ 0 (Lib.countB ⟨s.toArray⟩ ⟨List.toArray [c]⟩) ⟨s.toArray⟩).map Value.string = ((Lib.split s [c]).flatMap fun p => [st p]) ++ [] := by
    have h3 := Lib.splitB_data ⟨List.toArray [c]⟩ 0 (Lib.countB ⟨s.toArray⟩ ⟨List.toArray [c]⟩) ⟨s.toArray⟩;have h4 : Lib.split s [c] = (Lib.splitB ⟨List.toArray [c]⟩ 0 (Lib.countB ⟨s.toArray⟩ ⟨List.toArray [c]⟩) ⟨s.toArray⟩).map (·.data.toList) := h3.symm
    rw [h4, List.append_nil]
    induction (Lib.splitB ⟨List.toArray [c]⟩ 0 (Lib.countB ⟨s.toArray⟩ ⟨List.toArray [c]⟩) ⟨s.toArray⟩) with
    | nil => rfl
    | cons x l ih => rw [List.map_cons, List.map_cons, List.flatMap_cons, ← ih]; rfl
  refine ⟨_, _, h1, hI.keep, hI.freeze.imm, ?_, ?_⟩
  · exact (DExt.refl w D).add (hI.apart _ _ (List.mem_cons_self)) (Nat.le_refl _)
  exact ⟨_, _, _, rfl, by rw [← hlen]; exact SlL.ofBlock (rest := []) (fun _ => rfl) (by rw [← hd]; exact Imm.add_self _ _ _)⟩
def znX (e : Int) : List PanicEntry := [{ v := .iface 207 (it e), recovered := false }]
theorem zmq (e : Int) (w : World) : z8 Tryz.prog 40 [.bool true, it e] w (.tuple #[]) := by
  unfold z8;refine en Tryz.func40 rfl Tryz.ntmps40 zI (g [[1],[7,0,1]] ?_);refine WP.ret0 rfl rfl rfl  (fun w hI => ⟨rfl, hI.keep⟩)
theorem qs (e : Int) (w : World) : xC Tryz.prog 40 [.bool false, it e] w (znX e) := by
  unfold xC;refine en Tryz.func40 rfl Tryz.ntmps40 zI (g [[1],[6,0,1],[3,1]] ?_);refine WL.no (SO.panic rfl ?_);refine WP.panicBody rfl (fun w hI => ⟨rfl, hI.keep⟩)
theorem zmt (b : Nat) (w : World) : Idle Tryz.prog 39 [pt b] w := by
  refine callsD_of_wpS Tryz.func39 rfl fun c₀ cs hu => wpS_seq ?_;apply wpS_region;simp [wpOpsS, go_sem, recoverD, hu, Tryz.ntmps39]
  show Code.wpS _ _ _ _ _ _;refine wpS_of_wp (WC.start (x := ⟨19, [], [], w⟩) (fr := [(0, pt b), (2, .nilIface)]) (D := fun _ => none) (hp := []) ?_ ?_)
  · exact ⟨⟨by simp, rfl, zn7 ⟨by simp, by simp, trivial⟩⟩, (Inv.start (by intro _ _ h; cases h))⟩
  refine g [[1],[2,0,2]] ?_;refine WL.yd (Yd.neqNilNil UnF.h rfl) rfl (g [[4]] ?_);exact WP.mk fun a w' hA => ⟨hA.f.defers, .returning, by cases c₀; simp only at hu; subst hu; rfl, .tuple #[], by simp [results, Tryz.results39], ⟨_, rfl⟩, rfl, hA.i.keep⟩
theorem k5 (b : Nat) (e v0 : Int) (t : TypeId) (w : World) (hb : w.heap[b]? = some (.cells (List.toArray [it v0]) t (0, 0))) : uw Tryz.prog 39 [pt b] (.iface 207 (it e)) b (.cells (List.toArray [it e]) t (0, 0)) w := by
  refine callsD_of_wpS Tryz.func39 rfl fun c₀ cs hu => wpS_seq ?_;apply wpS_region;simp [wpOpsS, go_sem, recoverD, hu, Tryz.ntmps39]
  show Code.wpS _ _ _ _ _ _;refine wpS_of_wp (WC.start (x := ⟨19, [], [b], w⟩) (fr := [(0, pt b), (2, .iface 207 (it e))]) (D := fun _ => none) (hp := [(b, .cells (List.toArray [it v0]) t (0, 0))]) ?_ ?_)
  · exact ⟨⟨by simp, rfl, zn7 ⟨by simp, by simp, trivial⟩⟩, (Inv.one hb)⟩
  refine g [[1],[2,0,2]] ?_;refine WL.yd (Yd.neqNil UnF.h rfl) rfl (g [[4],[2,0,2]] ?_);refine WL.yd (Yd.assert UnF.h (by intro _ h; cases h) rfl) rfl (g [[9],[8,4,3,0,2],[6,3,0]] ?_);exact WP.mk fun a w' hA => ⟨hA.f.defers, .panicking [{ v := .iface 207 (it e), recovered := true }], rfl, .tuple #[], by simp [results, Tryz.results39], ⟨_, rfl⟩, rfl, hA.i.keep, hA.i.own _ _ (List.mem_of_getElem? (i := 0) rfl)⟩
inductive Part where
  | s (l : Bs)
  | i (n : Int)
  | c (n : Int)
  | p (x : Sp)
instance : Inhabited Part := ⟨.s []⟩
def zaY : Part → Value
  | .s l => .iface 9 (st l)
  | .i n => .iface 3 (it n)
  | .c n => .iface 225 (it n)
  | .p x => .iface 81 (.agg #[it x.lo, it x.hi])
def zne : Part → Bs
  | .s l => l
  | .i n => num n
  | .c n => two n
  | .p x => vX x
def zna : Part → Prop
  | .s l => l.length ≤ 10000
  | .i n => i64B n
  | .c n => i64B n
  | .p x => i64B x.lo ∧ i64B x.hi
def zv9 : Part → Prop
  | .s _ => True
  | .i _ => True
  | _ => False
def zoe (p : Part) : List Value := [zaY p]
def zmA (ps : List Part) : Bs := ps.flatMap zne
theorem zoT : ∀ (k u : Nat), u < 10 ^ (k + 1) → Lib.nDigits u ≤ k + 1
  | 0, u, h => by rw [Lib.nDigits_small (by simpa using h)]; omega
  | k + 1, u, h => by
    by_cases hu : u < 10
    · rw [Lib.nDigits_small hu]; omega
    rw [Lib.nDigits_big hu];have := zoT k (u / 10) (by rw [Nat.pow_succ] at h; omega);omega
theorem zo4 {n : Int} (h : i64B n) : (num n).length ≤ 20 := by
  unfold num Lib.itoa;obtain ⟨h1, h2⟩ := h;split
  · have := zoT 18 n.natAbs (by omega);rw [List.length_cons, Lib.decDigits_length]; omega
  have := zoT 18 n.toNat (by omega);rw [Lib.decDigits_length]; omega
theorem zva {p : Part} (h : zna p) : (zne p).length ≤ 10000 := by
  cases p with
  | s l => exact h
  | i n => have := zo4 h; simp only [zne]; omega
  | c n => have := zo4 h; simp only [zne, two]; split <;> simp <;> omega
  | p x =>
    have h1 := zo4 h.1; have h2 := zo4 h.2;simp only [zne, vX]; split
    · omega
    simp; omega
theorem zpC : ∀ (ps : List Part), (∀ p ∈ ps, zna p) → (zmA ps).length ≤ ps.length * 10000
  | [], _ => by simp [zmA]
  | p :: ps, h => by
    have h1 := zva (h p (by simp)); have h2 := zpC ps fun q hq => h q (by simp [hq]);simp only [zmA, List.flatMap_cons, List.length_append, List.length_cons] at h2 ⊢;omega
theorem Ky {α : Type} [Inhabited α] {l : List α} {i : Nat} (h : i < l.length) : gt l i ∈ l := by
  have : gt l i = l[i] := by simp [gt, List.getD, h]
  rw [this]; exact List.getElem_mem h
theorem zn3 {ps : List Part} {k : Nat} {p : Part} (hg : gt ps k = p) (hk : k < ps.length) : zmA (ps.take (k + 1)) = zmA (ps.take k) ++ zne p := by
  have : gt ps k = ps[k] := by simp [gt, List.getD, hk]
  unfold zmA;rw [List.take_succ_eq_append_getElem hk, List.flatMap_append, ← this, hg];simp
section
variable (ps : List Part) (a : Option Addr) (n c : Nat) (D : Imm) {kM : Bool} (hL : LibD kM D) (hS : SlL D 1 (ps.map zoe) a n) (hps : ∀ p ∈ ps, zna p)
include ps a n c D kM hL hS hps
theorem zqw (h0 : ∀ p ∈ ps, zv9 p) (hn : ps.length ≤ 20) (w : World) (hH : Holds D w) : z8 Tryz.prog 130 [.slice a n c] w (st (zmA ps)) := by
  unfold z8;obtain rfl : n = ps.length := by have := hS.len'; exact this
  refine en Tryz.func130 rfl Tryz.ntmps130 (Inv.start hH) (g [[1],[5,0],[6,2,0],[7,3,2,0]] ?_);refine WC.loopF (fun k : Nat => [(3, st (zmA (ps.take k))), (10, .slice a ps.length c), (11, nt ps.length), (12, nt k)]) (fun k => k ≤ ps.length) (fun k => ps.length - k) 0 (Nat.zero_le _) ⟨rfl, rfl, rfl, rfl, trivial⟩ ?_;intro k hk;have hjl := zpC (ps.take k) (fun p hp => hps p (List.mem_of_mem_take hp));rw [List.length_take] at hjl;have hjm : min k ps.length ≤ 20 := by omega
  refine g [[1],[5,3,10,11,12]] ?_;refine WC.cond rfl (fun c13 => ?_) (fun c13 => ?_)
  · try simp only [zq] at c13
    have hkl : k < ps.length := by omega
    refine g [[5],[1,3,10,11,12]] ?_;refine WL.yd (Yd.ix rfl rfl (hS.addr k (by omega))) rfl (WL.yd (Yd.l1 rfl ((hS.at k (by omega)).rd 0 rfl)) rfl (g [[4]] ?_));generalize hg : gt ps k = pk;have hok : zna pk := hg ▸ hps _ (Ky hkl);rcases pk with l | n | n | x
    · have hl1 : l.length ≤ 10000 := hok;refine g [[1,5,3,10,11,12]] ?_;skip;refine g [[5],[1,16,3,10,11,12]] ?_;refine WL.yd (Yd.assert UnF.h (by intro _ h; cases h) rfl) rfl (g [[6],[4,19,3,10,11,12],[3,6,3,10,11,12]] ?_);refine WL.yd (Yd.addS rfl rfl (by (try simp only [List.length_append, List.length_cons, List.length_nil]); omega)) rfl (g [[5],[4,3,10,11,12]] ?_);exact WP.againF (k + 1) hkl (by omega) ⟨by show some (st _) = some (st _); rw [zn3 hg hkl]; simp_all [zne, two, vX, zmA], rfl, rfl, rfl, trivial⟩ (fun _ h => nomatch h) (fun _ => List.nodup_nil)
    · have hl1 : (num n).length ≤ 20 := zo4 hok;refine g [[1,5,3,10,11,12]] ?_;skip;refine g [[5],[1,16,3,10,11,12]] ?_;refine WL.yd (Yd.assertNo UnF.h (by intro _ h; cases h) ZvF.h rfl rfl) rfl (g [[6],[1,16,3,10,11,12]] ?_);refine WL.yd (Yd.assert UnF.h (by intro _ h; cases h) rfl) rfl (g [[6],[4,25,3,10,11,12],[3,7,3,10,11,12]] ?_);refine WL.cl rfl (fun w hI => Xw _ hok D hL _ hI.imm) ?_;refine WL.yd (Yd.addS rfl rfl (by (try simp only [List.length_append, List.length_cons, List.length_nil]); omega)) rfl (g [[5],[4,3,10,11,12]] ?_);exact WP.againF (k + 1) hkl (by omega) ⟨by show some (st _) = some (st _); rw [zn3 hg hkl]; simp_all [zne, two, vX, zmA], rfl, rfl, rfl, trivial⟩ (fun _ h => nomatch h) (fun _ => List.nodup_nil)
    · exact ((by have := h0 _ (Ky hkl); rw [hg] at this; exact this : False)).elim
    exact ((by have := h0 _ (Ky hkl); rw [hg] at this; exact this : False)).elim
  try simp only [zq] at c13
  obtain rfl : k = ps.length := by omega
  refine g [[6],[6,3]] ?_;refine WP.ret1 rfl rfl rfl (RV.tmp rfl) (fun w hI => ⟨by rw [List.take_length], hI.keep⟩)
theorem Kt (hn : ps.length ≤ 20) (w : World) (hH : Holds D w) : z8 Tryz.prog 130 [.slice a n c] w (st (zmA ps)) := by
  unfold z8;obtain rfl : n = ps.length := by have := hS.len'; exact this
  refine en Tryz.func130 rfl Tryz.ntmps130 (Inv.start hH) (g [[1],[5,0],[6,2,0],[7,3,2,0]] ?_);refine WC.loopF (fun k : Nat => [(3, st (zmA (ps.take k))), (10, .slice a ps.length c), (11, nt ps.length), (12, nt k)]) (fun k => k ≤ ps.length) (fun k => ps.length - k) 0 (Nat.zero_le _) ⟨rfl, rfl, rfl, rfl, trivial⟩ ?_;intro k hk;have hjl := zpC (ps.take k) (fun p hp => hps p (List.mem_of_mem_take hp));rw [List.length_take] at hjl;have hjm : min k ps.length ≤ 20 := by omega
  refine g [[1],[5,3,10,11,12]] ?_;refine WC.cond rfl (fun c13 => ?_) (fun c13 => ?_)
  · try simp only [zq] at c13
    have hkl : k < ps.length := by omega
    refine g [[5],[1,3,10,11,12]] ?_;refine WL.yd (Yd.ix rfl rfl (hS.addr k (by omega))) rfl (WL.yd (Yd.l1 rfl ((hS.at k (by omega)).rd 0 rfl)) rfl (g [[4]] ?_));generalize hg : gt ps k = pk;have hok : zna pk := hg ▸ hps _ (Ky hkl);rcases pk with l | n | n | x
    · have hl1 : l.length ≤ 10000 := hok;refine g [[1,5,3,10,11,12]] ?_;skip;refine g [[5],[1,16,3,10,11,12]] ?_;refine WL.yd (Yd.assert UnF.h (by intro _ h; cases h) rfl) rfl (g [[6],[4,19,3,10,11,12],[3,6,3,10,11,12]] ?_);refine WL.yd (Yd.addS rfl rfl (by (try simp only [List.length_append, List.length_cons, List.length_nil]); omega)) rfl (g [[5],[4,3,10,11,12]] ?_);exact WP.againF (k + 1) hkl (by omega) ⟨by show some (st _) = some (st _); rw [zn3 hg hkl]; simp_all [zne, two, vX, zmA], rfl, rfl, rfl, trivial⟩ (fun _ h => nomatch h) (fun _ => List.nodup_nil)
    · have hl1 : (num n).length ≤ 20 := zo4 hok;refine g [[1,5,3,10,11,12]] ?_;skip;refine g [[5],[1,16,3,10,11,12]] ?_;refine WL.yd (Yd.assertNo UnF.h (by intro _ h; cases h) ZvF.h rfl rfl) rfl (g [[6],[1,16,3,10,11,12]] ?_);refine WL.yd (Yd.assert UnF.h (by intro _ h; cases h) rfl) rfl (g [[6],[4,25,3,10,11,12],[3,7,3,10,11,12]] ?_);refine WL.cl rfl (fun w hI => Xw _ hok D hL _ hI.imm) ?_;refine WL.yd (Yd.addS rfl rfl (by (try simp only [List.length_append, List.length_cons, List.length_nil]); omega)) rfl (g [[5],[4,3,10,11,12]] ?_);exact WP.againF (k + 1) hkl (by omega) ⟨by show some (st _) = some (st _); rw [zn3 hg hkl]; simp_all [zne, two, vX, zmA], rfl, rfl, rfl, trivial⟩ (fun _ h => nomatch h) (fun _ => List.nodup_nil)
    · have hl1 : (num n).length ≤ 20 := zo4 hok;have hl3 : (zmA [Part.i n]).length ≤ 20 := by simp [zmA, zne]; omega
      refine g [[1,5,3,10,11,12]] ?_;skip;refine g [[5],[1,16,3,10,11,12]] ?_;refine WL.yd (Yd.assertNo UnF.h (by intro _ h; cases h) ZvF.h rfl rfl) rfl (g [[6],[1,16,3,10,11,12]] ?_);refine WL.yd (Yd.assertNo UnF.h (by intro _ h; cases h) ZvF.h rfl rfl) rfl (g [[6],[1,16,3,10,11,12]] ?_);refine WL.yd (Yd.assert UnF.h (by intro _ h; cases h) rfl) rfl (g [[6],[6,32,3,10,11,12],[5,8,3,10,11,12]] ?_);refine WC.cond rfl (fun c34 => ?_) (fun c34 => ?_)
      · try simp only [zq] at c34
        refine g [[2,8,3,10,11,12]] ?_;refine WL.yd (Yd.addS rfl rfl (by (try simp only [List.length_append, List.length_cons, List.length_nil]); omega)) rfl (g [[3],[4,3,8,10,11,12]] ?_);refine WL.so (SO.buildSlice UnF.h SzF.h ZvF.h rfl rfl rfl rfl (cs := [_]) rfl) rfl ?_;rintro _ _ _ ⟨b40, hb40, rfl, rfl, rfl⟩;refine WL.cl rfl (fun w hI => zqw [Part.i n] _ _ _ _ (hL.ext ((DExt.refl _ D).add (hI.apart _ _ (List.mem_of_getElem? (i := 0) rfl)) hb40)) (SlL.ofBlock (l := [Part.i n]) (f := zoe) (m := 1) (rest := []) (fun _ => rfl) (Imm.add_self _ _ _)) (by simp [zna]; simp_all [zna, i64B]) (by simp [zv9]) (by simp) _ (hI.freezeK 0 rfl).2.imm) ?_;refine WL.yd (Yd.addS rfl rfl (by (try simp only [List.length_append, List.length_cons, List.length_nil]); omega)) rfl (g [[5],[4,3,10,11,12]] ?_);exact WP.againF (k + 1) hkl (by omega) ⟨by show some (st _) = some (st _); rw [zn3 hg hkl]; simp_all [zne, two, vX, zmA], rfl, rfl, rfl, trivial⟩ (fun _ h => nomatch h) (fun _ => List.nodup_nil)
      try simp only [zq] at c34
      refine g [[2],[4,8,3,10,11,12]] ?_;refine WL.so (SO.buildSlice UnF.h SzF.h ZvF.h rfl rfl rfl rfl (cs := [_]) rfl) rfl ?_;rintro _ _ _ ⟨b40, hb40, rfl, rfl, rfl⟩;refine WL.cl rfl (fun w hI => zqw [Part.i n] _ _ _ _ (hL.ext ((DExt.refl _ D).add (hI.apart _ _ (List.mem_of_getElem? (i := 0) rfl)) hb40)) (SlL.ofBlock (l := [Part.i n]) (f := zoe) (m := 1) (rest := []) (fun _ => rfl) (Imm.add_self _ _ _)) (by simp [zna]; simp_all [zna, i64B]) (by simp [zv9]) (by simp) _ (hI.freezeK 0 rfl).2.imm) ?_;refine WL.yd (Yd.addS rfl rfl (by (try simp only [List.length_append, List.length_cons, List.length_nil]); omega)) rfl (g [[5],[4,3,10,11,12]] ?_);exact WP.againF (k + 1) hkl (by omega) ⟨by show some (st _) = some (st _); rw [zn3 hg hkl]; simp_all [zne, two, vX, zmA], rfl, rfl, rfl, trivial⟩ (fun _ h => nomatch h) (fun _ => List.nodup_nil)
    have hl1 : (num x.lo).length ≤ 20 := zo4 hok.1;have hl2 : (num x.hi).length ≤ 20 := zo4 hok.2;have hl3 : (zmA [Part.i x.lo]).length ≤ 20 := by simp [zmA, zne]; omega
    have hl4 : (zmA [Part.s [46, 46], Part.i x.hi]).length ≤ 22 := by simp [zmA, zne]; omega
    refine g [[1,5,3,10,11,12]] ?_;skip;refine g [[5],[1,16,3,10,11,12]] ?_;refine WL.yd (Yd.assertNo UnF.h (by intro _ h; cases h) ZvF.h rfl rfl) rfl (g [[6],[1,16,3,10,11,12]] ?_);refine WL.yd (Yd.assertNo UnF.h (by intro _ h; cases h) ZvF.h rfl rfl) rfl (g [[6],[1,16,3,10,11,12]] ?_);refine WL.yd (Yd.assertNo UnF.h (by intro _ h; cases h) ZvF.h rfl rfl) rfl (g [[6],[1,16,3,10,11,12]] ?_);refine WL.yd (Yd.assert UnF.h (by intro _ h; cases h) rfl) rfl (g [[6],[1,45,3,10,11,12]] ?_);refine WL.so (SO.alloc ZvF.h rfl) rfl (zw fun b9 hb9 => ?_);refine g [[4],[5,9,3,10,11,12]] ?_;refine WL.so (SO.buildSlice UnF.h SzF.h ZvF.h rfl rfl rfl rfl (cs := [_]) rfl) rfl ?_;rintro _ _ _ ⟨b50, hb50, rfl, rfl, rfl⟩;refine WL.cl rfl (fun w hI => zqw [Part.i x.lo] _ _ _ _ (hL.ext ((DExt.refl _ D).add (hI.apart _ _ (List.mem_of_getElem? (i := 0) rfl)) hb50)) (SlL.ofBlock (l := [Part.i x.lo]) (f := zoe) (m := 1) (rest := []) (fun _ => rfl) (Imm.add_self _ _ _)) (by simp [zna]; simp_all [zna, i64B]) (by simp [zv9]) (by simp) _ (hI.freezeK 0 rfl).2.imm) ?_;refine WL.yd (Yd.addS rfl rfl (by (try simp only [List.length_append, List.length_cons, List.length_nil]); omega)) rfl (g [[4],[8,3,9,10,11,12]] ?_);refine WC.cond rfl (fun c57 => ?_) (fun c57 => ?_)
    · try simp only [zq] at c57
      refine g [[6,3,9,10,11,12]] ?_;refine WL.so (SO.buildSlice UnF.h SzF.h ZvF.h rfl rfl rfl rfl (cs := [_, _]) rfl) rfl ?_;rintro _ _ _ ⟨b63, hb63, rfl, rfl, rfl⟩;refine WL.cl rfl (fun w hI => zqw [Part.s [46, 46], Part.i x.hi] _ _ _ _ (hL.ext ((DExt.refl _ D).add (hI.apart _ _ (List.mem_of_getElem? (i := 0) rfl)) hb63)) (SlL.ofBlock (l := [Part.s [46, 46], Part.i x.hi]) (f := zoe) (m := 1) (rest := []) (fun _ => rfl) (Imm.add_self _ _ _)) (by simp [zna]; simp_all [zna, i64B]) (by simp [zv9]) (by simp) _ (hI.freezeK 0 rfl).2.imm) ?_;refine WL.yd (Yd.addS rfl rfl (by (try simp only [List.length_append, List.length_cons, List.length_nil]); omega)) rfl (g [[5],[4,3,10,11,12]] ?_);exact WP.againF (k + 1) hkl (by omega) ⟨by show some (st _) = some (st _); rw [zn3 hg hkl]; simp_all [zne, two, vX, zmA], rfl, rfl, rfl, trivial⟩ (fun _ h => nomatch h) (fun _ => List.nodup_nil)
    try simp only [zq] at c57
    refine g [[4],[4,3,10,11,12]] ?_;exact WP.againF (k + 1) hkl (by omega) ⟨by show some (st _) = some (st _); rw [zn3 hg hkl]; simp_all [zne, two, vX, zmA], rfl, rfl, rfl, trivial⟩ (fun _ h => nomatch h) (fun _ => List.nodup_nil)
  try simp only [zq] at c13
  obtain rfl : k = ps.length := by omega
  refine g [[6],[6,3]] ?_;refine WP.ret1 rfl rfl rfl (RV.tmp rfl) (fun w hI => ⟨by rw [List.take_length], hI.keep⟩)
end
theorem SA81 : zj Tryz.prog 81 [.int .i64 0, .int .i64 0] [(0, 1), (1, 1)] := ⟨⟨_, Tryz.zeroValue81, rfl⟩, _, Tryz.underlying81, fun w => by simp [Tryz.sizeOf3]⟩
abbrev zBf := SaF.mk SA81
attribute [instance] zBf
def endO (o : Option Value) : Ending := match o with | some v => .returned v | none => .panicked (znX 8)
theorem znA {o : Option Value} {v : Value} (h : o = some v) : Ending.returned v = endO o := by subst h; rfl
theorem zmx {o : Option Value} (h : o = none) : Ending.panicked (znX 8) = endO o := by subst h; rfl
def Try1 (f : FuncId) (vals : List Value) (w : World) (o : Option Value) : Prop := Calls Tryz.prog f vals.toArray w fun e w' => e = endO o ∧ Keep [] w w'
section
variable {f : FuncId} {vals : List Value} {w : World}
include f vals w
theorem Try1.ok {o : Option Value} {v : Value} (h : Try1 f vals w o) (e : o = some v) : z8 Tryz.prog f vals w v := by subst e; exact h
theorem Try1.no {o : Option Value} (h : Try1 f vals w o) (e : o = none) : xC Tryz.prog f vals w (znX 8) := by subst e; exact h
theorem Try1.of {α : Type} {o : Option α} {φ : α → Value} (h1 : ∀ x, o = some x → z8 Tryz.prog f vals w (φ x)) (h2 : o = none → xC Tryz.prog f vals w (znX 8)) : Try1 f vals w (o.map φ) := by
  cases o with
  | none => exact h2 rfl
  | some x => exact h1 x rfl
end
def Try2 {α : Type} (f : FuncId) (vals : List Value) (w : World) (D : Imm) (o : Option α) (φ : α → Value → Imm → Prop) : Prop := Calls Tryz.prog f vals.toArray w fun e w' =>
  (∃ x v D', o = some x ∧ e = .returned v ∧ Keep [] w w' ∧ Holds D' w' ∧ DExt w D D' ∧ φ x v D') ∨ (o = none ∧ e = .panicked (znX 8) ∧ Keep [] w w')
section
variable {α : Type} {f : FuncId} {vals : List Value} {w : World} {D : Imm} {o : Option α} {φ : α → Value → Imm → Prop}
include α f vals w D o φ
theorem Try2.ok {x : α} (h : Try2 f vals w D o φ) (e : o = some x) : y6 Tryz.prog f vals w D (φ x) := by
  refine h.mono ?_;rintro e' w' (⟨y, v, D', h1, h2⟩ | ⟨h1, _⟩)
  · rw [e] at h1; cases h1; exact ⟨v, D', h2⟩
  rw [e] at h1; cases h1
theorem Try2.no (h : Try2 f vals w D o φ) (e : o = none) : xC Tryz.prog f vals w (znX 8) := by
  refine h.mono ?_;rintro e' w' (⟨y, v, D', h1, h2⟩ | ⟨_, h2⟩)
  · rw [e] at h1; cases h1
  exact h2
end
theorem zrx (s cs : Bs) : (Lib.trimLeftS s cs).length ≤ s.length := by
  unfold Lib.trimLeftS;exact (List.dropWhile_sublist _).length_le
theorem zpw (s sep : Bs) : (Lib.cut s sep).1.length ≤ s.length ∧ (Lib.cut s sep).2.1.length ≤ s.length := by
  unfold Lib.cut;split <;> simp <;> omega
theorem zmL (s p : Bs) : (Lib.trimPrefix s p).length ≤ s.length := Lib.trimPrefix_le s p
theorem znI (s p : Bs) : (Lib.trimSuffix s p).length ≤ s.length := Lib.trimSuffix_le s p
section
variable (s : Bs) (hs : s.length ≤ 2 ^ 20)
include s hs
theorem zv3 (v : Int) (h : numP s = some v) (w : World) : z8 Tryz.prog 136 [st s] w (it v) := by
  unfold z8
  have ha : Lib.atoiAll (Lib.trimLeftS s [32]) = .ok v := by
    unfold numP at h;split at h
    · cases h; assumption
    cases h
  refine en Tryz.func136 rfl Tryz.ntmps136 zI (g [[1],[5,0],[2,2,0]] ?_);refine WL.cl rfl (fun w hI => zvK s _) ?_;refine WL.cl rfl (fun w hI => za0 _ (by have := zrx s [32]; omega) v ha _) (g [[8],[2,4,3,2]] ?_);refine WL.yd (Yd.eqlNilNil UnF.h rfl) rfl (WL.cl rfl (fun w hI => zmq _ _) (g [[3],[6,3,2]] ?_));refine WP.ret1 rfl rfl rfl (RV.tmp rfl) (fun w hI => ⟨rfl, hI.keep⟩)
theorem zv2 (h : numP s = none) (D : Imm) {kM : Bool} (hL : LibD kM D) (w : World) (hH : Holds D w) : xC Tryz.prog 136 [st s] w (znX 8) := by
  unfold xC
  have ha : ∀ v, Lib.atoiAll (Lib.trimLeftS s [32]) ≠ .ok v := fun v e => by
    unfold numP at h;rw [e] at h;cases h
  refine en Tryz.func136 rfl Tryz.ntmps136 (Inv.start hH) (g [[1],[5,0],[2,2,0]] ?_);refine WL.cl rfl (fun w hI => zvK s _) ?_;refine WL.so (SO.news (Enters.func CaF.h rfl) (fun w hI => KZ _ (by have := zrx s [32]; omega) ha D hL w hI.imm)) rfl ?_;rintro _ D1 _ ⟨_, hX1, ⟨rfl, z, tt, p, rfl⟩, rfl⟩;refine g [[8],[2,4,3,2]] ?_;refine WL.yd (Yd.eqlNil UnF.h rfl) rfl (WL.nf rfl (fun w hI => qs _ _) (g [[1]] ?_));refine WP.panicBody rfl (fun w hI => ⟨rfl, hI.keep⟩)
theorem Js (D : Imm) {kM : Bool} (hL : LibD kM D) (w : World) (hH : Holds D w) : Try1 136 [st s] w ((numP s).map it) :=
  Try1.of (fun x h => zv3 s hs x h w) (fun h => zv2 s hs h D hL w hH)
end
theorem zp8 (s b : Bs) (hs : s.length ≤ 2 ^ 20) (D : Imm) {kM : Bool} (hL : LibD kM D) (w : World) (hH : Holds D w) : Try1 133 [st s, st b] w ((UA s b).map fun p => .tuple #[it p.1, it p.2]) := by
  unfold Try1;have hc := zpw s b;refine en Tryz.func133 rfl Tryz.ntmps133 (Inv.start hH) (g [[1],[6,0,1],[3,5,4,0,1]] ?_);refine WL.cl rfl (fun w hI => zuc s b hs D hL _ hI.imm) (g [[10],[2,8,7,6,5,4]] ?_);refine WL.part 16 rfl (fun g16 => ?_) (fun g16 => ?_)
  · refine WL.cl rfl (fun w hI => zmq _ _) (g [[3],[2,7,6,5,4]] ?_);rcases h19 : numP (Lib.cut s b).1 with _ | x
    · refine WL.nf rfl (fun w hI => (Js _ (by omega) D hL _ hI.imm).no (by rw [h19]; rfl)) (g [[1]] ?_);refine WP.panicBody rfl (fun w hI => ⟨zmx (by simp_all [UA]), hI.keep⟩)
    skip;refine WL.cl rfl (fun w hI => (Js _ (by omega) D hL _ hI.imm).ok (by rw [h19]; rfl)) (g [[1]] ?_);rcases h21 : numP (Lib.cut s b).2.1 with _ | y
    · refine WL.nf rfl (fun w hI => (Js _ (by omega) D hL _ hI.imm).no (by rw [h21]; rfl)) (g [[1]] ?_);refine WP.panicBody rfl (fun w hI => ⟨zmx (by simp_all [UA]), hI.keep⟩)
    skip;refine WL.cl rfl (fun w hI => (Js _ (by omega) D hL _ hI.imm).ok (by rw [h21]; rfl)) (g [[5]] ?_);refine WP.ret2 rfl rfl rfl (RV.tmp rfl) (RV.tmp rfl) (fun w hI => ⟨znA (by simp_all [UA]), hI.keep⟩)
  refine WL.nf rfl (fun w hI => qs _ _) (g [[1]] ?_);refine WP.panicBody rfl (fun w hI => ⟨zmx (by simp_all [UA]), hI.keep⟩)
theorem zqc (s : Bs) (hs : s.length ≤ 2 ^ 20) (D : Imm) {kM : Bool} (hL : LibD kM D) (w : World) (hH : Holds D w) : Try1 145 [st s] w ((znW s).map fun x => .agg #[it x.lo, it x.hi]) := by
  unfold Try1;have hc := zpw s [46, 46];refine en Tryz.func145 rfl Tryz.ntmps145 (Inv.start hH) (g [[1],[1,0]] ?_);refine WL.so (SO.alloc ZvF.h rfl) rfl (zw fun b2 hb2 => ?_);refine g [[3],[2,2,0]] ?_;refine WL.cl rfl (fun w hI => zuc s [46, 46] hs D hL _ hI.imm) (g [[11],[5,5,4,3,2]] ?_);refine WC.cond rfl (fun c13 => ?_) (fun c13 => ?_)
  · try simp only [zq] at c13
    refine g [[6,4,3,2],[2,4,3,2]] ?_;rcases h16 : numP (Lib.cut s [46, 46]).1 with _ | x
    · refine WL.nf rfl (fun w hI => (Js _ (by omega) D hL _ hI.imm).no (by rw [h16]; rfl)) (g [[1]] ?_);refine WP.panicBody rfl (fun w hI => ⟨zmx (by simp_all [znW]), hI.keep⟩)
    skip;refine WL.cl rfl (fun w hI => (Js _ (by omega) D hL _ hI.imm).ok (by rw [h16]; rfl)) (g [[1]] ?_);rcases h18 : numP (Lib.cut s [46, 46]).1 with _ | y
    · refine WL.nf rfl (fun w hI => (Js _ (by omega) D hL _ hI.imm).no (by rw [h18]; rfl)) (g [[1]] ?_);refine WP.panicBody rfl (fun w hI => ⟨zmx (by simp_all [znW]), hI.keep⟩)
    skip;refine WL.cl rfl (fun w hI => (Js _ (by omega) D hL _ hI.imm).ok (by rw [h18]; rfl)) (g [[5]] ?_);refine WP.ret1 rfl rfl rfl (RV.cellN AgF.h SzF.h rfl (vs := [_, _]) rfl (RdN.own (k := 0) (n := 2) rfl rfl)) (fun w hI => ⟨znA ((congrArg (Option.map _) (show znW s = some ⟨x, y⟩ by simp_all [znW])).trans rfl), hI.keep⟩)
  try simp only [zq] at c13
  refine g [[3],[2,4,3,2]] ?_;rcases h16 : numP (Lib.cut s [46, 46]).1 with _ | x
  · refine WL.nf rfl (fun w hI => (Js _ (by omega) D hL _ hI.imm).no (by rw [h16]; rfl)) (g [[1]] ?_);refine WP.panicBody rfl (fun w hI => ⟨zmx (by simp_all [znW]), hI.keep⟩)
  skip;refine WL.cl rfl (fun w hI => (Js _ (by omega) D hL _ hI.imm).ok (by rw [h16]; rfl)) (g [[1]] ?_);rcases h18 : numP (Lib.cut s [46, 46]).2.1 with _ | y
  · refine WL.nf rfl (fun w hI => (Js _ (by omega) D hL _ hI.imm).no (by rw [h18]; rfl)) (g [[1]] ?_);refine WP.panicBody rfl (fun w hI => ⟨zmx (by simp_all [znW]), hI.keep⟩)
  skip;refine WL.cl rfl (fun w hI => (Js _ (by omega) D hL _ hI.imm).ok (by rw [h18]; rfl)) (g [[5]] ?_);refine WP.ret1 rfl rfl rfl (RV.cellN AgF.h SzF.h rfl (vs := [_, _]) rfl (RdN.own (k := 0) (n := 2) rfl rfl)) (fun w hI => ⟨znA ((congrArg (Option.map _) (show znW s = some ⟨x, y⟩ by simp_all [znW])).trans rfl), hI.keep⟩)
theorem zuz : ∀ {s : Bs} {c : UInt8}, Lib.indexByte s c = -1 → s.takeWhile (· != c) = s ∧ s.dropWhile (· != c) = [] ∧ c ∉ s
  | [], c, _ => by simp
  | b :: l, c, h => by
    unfold Lib.indexByte at h;split at h
    · cases h
    rename_i hb
    have h1 : Lib.indexByte l c = -1 := by
      have := Lib.indexByte_ge l c;split at h
      · rename_i h2; simpa using h2
      omega
    obtain ⟨i1, i2, i3⟩ := zuz h1;have hb' : (b != c) = true := by simpa using hb
    rw [List.takeWhile_cons, List.dropWhile_cons, if_pos hb', if_pos hb', i1, i2];exact ⟨rfl, rfl, by rw [List.mem_cons, not_or]; exact ⟨fun e => hb (by simp [e]), i3⟩⟩
theorem zsP : ∀ {s : Bs} {c : UInt8} {j : Nat}, Lib.indexByte s c = (j : Int) → j < s.length ∧ s.takeWhile (· != c) = s.take j ∧ s.dropWhile (· != c) = s.drop j ∧ s = s.take j ++ c :: s.drop (j + 1)
  | [], c, j, h => by simp [Lib.indexByte] at h
  | b :: l, c, j, h => by
    unfold Lib.indexByte at h;split at h
    · rename_i hb
      obtain rfl : j = 0 := by omega
      have hb' : (b != c) = false := by simpa using hb
      have : b = c := by simpa using hb
      rw [List.takeWhile_cons, List.dropWhile_cons, hb'];simp [this]
    rename_i hb
    have hge := Lib.indexByte_ge l c;split at h
    · omega
    rename_i h2
    obtain ⟨k, rfl⟩ : ∃ k, j = k + 1 := ⟨j - 1, by simp at h2; omega⟩;obtain ⟨i1, i2, i3, i4⟩ := zsP (s := l) (c := c) (j := k) (by omega);have hb' : (b != c) = true := by simpa using hb
    rw [List.takeWhile_cons, List.dropWhile_cons, if_pos hb', if_pos hb', i2, i3];refine ⟨by simp; omega, rfl, rfl, ?_⟩;simp only [List.take_succ_cons, List.drop_succ_cons, List.cons_append];rw [← i4]
def spC (s : Sp) : List Value := [it s.lo, it s.hi]
theorem UP : ∀ s, (spC s).length = 2 := fun _ => rfl
theorem zoJ : ∀ (n : Nat) (r : Bs), r.length < n → ∀ m, r.length < m → znv n r = znv m r
  | n + 1, r, h, m + 1, h' => by
    rw [znv, znv];by_cases e : r = []
    · rw [if_pos e, if_pos e]
    have hl : 0 < r.length := List.length_pos_iff.2 e;rw [if_neg e, if_neg e, zoJ n (r.drop 6) (by simp; omega) m (by simp; omega)]
theorem zub (n : Nat) : znv n [] = some [] := by cases n <;> simp [znv]
theorem ztt {r : Bs} (e : r ≠ []) {a b : Int} (h : UA (r.take 6) [45] = some (a, b)) : znv (r.length + 1) r = (znv ((r.drop 6).length + 1) (r.drop 6)).map (⟨a, b⟩ :: ·) := by
  have hl : 0 < r.length := List.length_pos_iff.2 e;rw [znv, if_neg e, h];simp only;rw [zoJ r.length (r.drop 6) (by simp; omega) ((r.drop 6).length + 1) (by omega)]
theorem zw9 {r : Bs} (e : r ≠ []) (h : UA (r.take 6) [45] = none) : znv (r.length + 1) r = none := by
  rw [znv, if_neg e, h]
theorem zp1 {s w : Bs} (h : Lib.hasPrefix s w = true) : Lib.trimPrefix s w = s.drop w.length := by unfold Lib.trimPrefix; rw [if_pos h]
theorem zpS {s w : Bs} (h : Lib.hasPrefix s w = true) (h6 : (Lib.trimPrefix s w).length % 6 = 0) : zmH s w = (znv ((Lib.trimPrefix s w).length + 1) (Lib.trimPrefix s w)).map ([] ++ ·) := by
  rw [zp1 h] at h6 ⊢;unfold zmH;rw [if_pos ⟨h, by simpa using h6⟩, zoJ (s.length + 1) _ (by simp; omega) ((s.drop w.length).length + 1) (by omega)];simp
theorem zp5 {s w : Bs} (h : Lib.hasPrefix s w = true → ¬ (Lib.trimPrefix s w).length % 6 = 0) : zmH s w = none := by
  unfold zmH;rw [if_neg];rintro ⟨e1, e2⟩;have := h e1;rw [zp1 e1] at this;simp at this;exact this e2
theorem zon {α : Type} (take : Bs → Option α) : ∀ (n : Nat) (r : Bs), r.length < n → ∀ m, r.length < m → zmK take n r = zmK take m r
  | n + 1, [], _, m + 1, _ => rfl
  | n + 1, c :: r, h, m + 1, h' => by
    simp only [List.length_cons] at h h';have hl : (r.dropWhile (· != 32)).length ≤ r.length := (List.dropWhile_sublist _).length_le
    rw [zmK, zmK, zon take n _ (by omega) m (by omega)]
section
variable {α : Type} {take : Bs → Option α} {r : Bs}
include α take r
theorem zoo {x : α} (h : take (r.takeWhile (· != 32)) = some x) : zmK take ((32 :: r).length + 1) (32 :: r) = (zmK take ((r.dropWhile (· != 32)).length + 1) (r.dropWhile (· != 32))).map (x :: ·) := by
  have hl : (r.dropWhile (· != 32)).length ≤ r.length := (List.dropWhile_sublist _).length_le
  rw [zmK, if_pos rfl, h];simp only;rw [zon take _ _ (by simp; omega) ((r.dropWhile (· != 32)).length + 1) (by omega)]
theorem zpN (h : take (r.takeWhile (· != 32)) = none) (n : Nat) : zmK take (n + 1) (32 :: r) = none := by
  rw [zmK, if_pos rfl, h]
theorem zp0 (e : r ≠ []) (h : Lib.hasPrefix r [32] = false) (n : Nat) : zmK take (n + 1) r = none := by
  cases r with
  | nil => exact absurd rfl e
  | cons c r =>
    rw [zmK, if_neg];rintro rfl;simp [Lib.hasPrefix] at h
end
theorem zyY {r : Bs} (h : Lib.hasPrefix r [32] = true) : ∃ r', r = 32 :: r' := by
  cases r with
  | nil => simp [Lib.hasPrefix] at h
  | cons c r => simp [Lib.hasPrefix] at h; exact ⟨r, by rw [h]⟩
theorem zvJ (r : Bs) : Lib.trimPrefix (32 :: r) [32] = r := zn0 [32] r
theorem znJ (r : Bs) : (r.takeWhile (· != 32)).length ≤ r.length ∧ (r.dropWhile (· != 32)).length ≤ r.length := ⟨(List.takeWhile_sublist _).length_le, (List.dropWhile_sublist _).length_le⟩
theorem zvR (s : Bs) (w : World) : z8 Tryz.prog 191 [st s] w (.tuple #[st (s.takeWhile (· != 32)), st (s.dropWhile (· != 32))]) := by
  unfold z8;refine en Tryz.func191 rfl Tryz.ntmps191 zI (g [[1],[7,0],[2,3,2,0]] ?_);refine WL.cl rfl (fun w hI => zAz s 32 _) (g [[4],[5,4,3,2,0]] ?_);refine WC.cond rfl (fun c8 => ?_) (fun c8 => ?_)
  · try simp only [zq] at c8
    refine g [[1]] ?_;obtain ⟨j, hj⟩ : ∃ j : Nat, Lib.indexByte s 32 = (j : Int) := ⟨(Lib.indexByte s 32).toNat, by omega⟩;obtain ⟨hjs, ht, hd, _⟩ := zsP hj;refine WC.know 4 (nt j) rfl (by rw [hj]) (g [[0,4,3,2,0],[3007],[2]] ?_);refine WQ.q rfl (Yd.qt (Yd.sliceToS Tryz.underlying9 rfl rfl (by omega))) rfl (g [[2]] ?_);refine WQ.q rfl (Yd.qt (Yd.sliceFromS Tryz.underlying9 rfl rfl (by omega))) rfl (g [[7]] ?_);refine WP.ret2 rfl rfl rfl (RV.tmp rfl) (RV.tmp rfl) (fun w hI => ⟨by rw [ht, hd], hI.keep⟩)
  try simp only [zq] at c8
  refine g [[3],[7,3,2,0]] ?_;refine WP.ret2 rfl rfl rfl (RV.tmp rfl) (RV.tmp rfl) (fun w hI => ⟨by have hge := Lib.indexByte_ge s 32; obtain ⟨h1, h2, _⟩ := zuz (s := s) (c := 32) (by omega); rw [h1, h2], hI.keep⟩)
theorem zos (s word : Bs) (hs : s.length ≤ 2 ^ 20) (D : Imm) {kM : Bool} (hL : LibD kM D) (w : World) (hH : Holds D w) : Try2 135 [st s, st word] w D (zmH s word) (fun l v D' => ∃ a n c, v = .slice a n c ∧ SlL D' 2 (l.map spC) a n) := by
  unfold Try2;refine en Tryz.func135 rfl Tryz.ntmps135 (Inv.start hH) (g [[1],[5,0,1],[3,4,0,1]] ?_);refine WL.cl rfl (fun w hI => zpv s word _) (g [[8],[3,6,5,4]] ?_);refine WL.part 16 rfl (fun g16 => ?_) (fun g16 => ?_)
  · refine g [[1]] ?_;refine WL.ydg rfl (Yd.lenStr rfl Tryz.underlying9 rfl) rfl ?_;refine WL.ydg rfl (Yd.rem rfl rfl (by (try dsimp only); omega) (by (try dsimp only); omega)) rfl (g [[2]] ?_);refine WL.part 21 rfl (fun g21 => ?_) (fun g21 => ?_)
    · try simp only [zq] at g21
      refine WL.cl rfl (fun w hI => zmq _ _) (g [[4]] ?_);refine WC.loopT [] (fun y : List Sp × Bs × Option Ow => [(4, owV y.2.2 y.1.length), (5, st y.2.1)]) (fun y => owH y.2.2 81 (y.1.flatMap spC) []) (fun y => zmH s word = (znv (y.2.1.length + 1) y.2.1).map (y.1 ++ ·) ∧ y.2.1.length % 6 = 0 ∧ y.1.length + y.2.1.length ≤ 2 ^ 20 ∧ owP w y.2.2 y.1.length 2) (fun y => y.2.1.length) ([], Lib.trimPrefix s word, none) ⟨zpS g16 (by omega), by dsimp only; omega, by have := zmL s word; simp; omega, rfl⟩ rfl ⟨rfl, rfl, trivial⟩ ?_
      rintro ⟨l0, r, o⟩ ⟨hc, h6, hl, ho⟩;dsimp only at hc h6 hl ho;refine g [[2]] ?_;skip;refine g [[2,4,5]] ?_;refine WL.yd (Yd.neS' rfl rfl) rfl (g [[2]] ?_);refine WC.cond rfl (fun c24 => ?_) (fun c24 => ?_)
      · try simp only [zq] at c24
        have hrl : 0 < r.length := List.length_pos_iff.2 c24;refine g [[5],[2,4,5]] ?_;refine WL.yd (Yd.sliceToS (j := 6) Tryz.underlying9 rfl rfl (by (try dsimp only); omega)) rfl ?_;rcases h30 : UA (r.take 6) [45] with _ | ⟨x, y⟩
        · refine WL.nf rfl (fun w hI => (zp8 _ _ (by simp; omega) D hL _ hI.imm).no (by rw [h30]; rfl)) (g [[6]] ?_);refine WP.panicBody rfl (fun w hI => .inr ⟨?_, rfl, hI.keep⟩);rw [hc, zw9 c24 h30]; rfl
        skip;refine WL.cl rfl (fun w hI => (zp8 _ _ (by simp; omega) D hL _ hI.imm).ok (by rw [h30]; rfl)) (g [[7],[5,8,7,4,5]] ?_);refine WL.so (SO.buildSlice UnF.h SzF.h ZvF.h rfl rfl rfl rfl (cs := [_, _]) rfl) rfl ?_;rintro _ _ _ ⟨b37, hb37, rfl, rfl, rfl⟩;refine WL.so (SO.appendOw (o := o) (len := l0.length) (n := 1) (xs := (l0.flatMap spC)) (size := 2) [_] [] [] rfl rfl Tryz.underlying46 Tryz.sizeOf81 Tryz.typeInfo81 Tryz.zeroValue81 rfl rfl rfl rfl ⟨rfl, .inr ⟨_, _, _, rfl, RdN.own (k := 0) (n := 2) rfl rfl⟩⟩ (za rfl) ho (zr UP _) (by omega) (by show (2 * (_ + _) + 1000) * 16 ≤ 2 ^ 48; omega) (by omega)) rfl ?_;rintro _ _ _ ⟨u1, hu1, rfl, rfl, rfl⟩;refine g [[4],[2,4,5]] ?_;refine WL.yd (Yd.sliceFromS (i := 6) Tryz.underlying9 rfl rfl (by (try dsimp only); omega)) rfl (g [[2]] ?_);exact WP.againT (l0 ++ [(⟨x, y⟩ : Sp)], r.drop 6, some u1) ⟨by dsimp only; rw [hc, ztt c24 h30, Option.map_map]; congr 1; funext z; simp, by simp; omega, by simp; omega, by simpa using hu1⟩ (by simp; omega) [] _ rfl (by show _ = _ ++ owH (some u1) _ ((l0 ++ [(⟨x, y⟩ : Sp)]).flatMap spC) []; rw [List.flatMap_append]; rfl) ⟨by show _ = some (owV (some u1) (l0 ++ [_]).length); rw [List.length_append]; rfl, rfl, trivial⟩
      try simp only [zq] at c24
      refine g [[6],[1,4]] ?_;obtain rfl : r = [] := by simpa using c24
      refine WL.freezeOw (f := spC) (m := 2) UP [] [] o 81 l0 rfl ho rfl (fun D2 hX2 hS2 => ?_);have hfin : zmH s word = some l0 := by rw [hc, zub]; simp
      refine g [[5]] ?_;refine WP.ret1 rfl rfl rfl (RV.tmp rfl) (fun w1 hI => .inl ⟨l0, _, D2, hfin, rfl, hI.keep, hI.imm, hX2, owAt o, _, _, xg (wt ho), hS2⟩)
    try simp only [zq] at g21
    refine WL.nf rfl (fun w hI => qs _ _) (g [[1]] ?_);refine WP.panicBody rfl (fun w hI => .inr ⟨?_, rfl, hI.keep⟩);exact zp5 (fun _ => by omega)
  refine g [[5]] ?_;refine WL.nf rfl (fun w hI => qs _ _) (g [[1]] ?_);refine WP.panicBody rfl (fun w hI => .inr ⟨?_, rfl, hI.keep⟩);exact zp5 (fun e => by rw [e] at g16; cases g16)
def znU (h : zoq) : List Value := [it h.wind.lo, it h.wind.hi, it h.thunder]
def znc (s : zoD) : List Value := [it s.hour, .bool s.up]
def bsC (s : zmz) : List Value := [it s.minute, it s.cols.lo, it s.cols.hi, it s.rows.lo, it s.rows.hi]
theorem zra : ∀ s, (znU s).length = 3 := fun _ => rfl
theorem znH : ∀ s, (znc s).length = 2 := fun _ => rfl
theorem zu6 : ∀ s, (bsC s).length = 5 := fun _ => rfl
theorem zol {α : Type} {take : Bs → Option α} {s w : Bs} (h : Lib.hasPrefix s w = true) : znm take s w = (zmK take ((Lib.trimPrefix s w).length + 1) (Lib.trimPrefix s w)).map ([] ++ ·) := by
  rw [zp1 h];unfold znm;rw [if_pos h, zon take (s.length + 1) _ (by simp; omega) ((s.drop w.length).length + 1) (by omega)];simp
theorem zpD {α : Type} {take : Bs → Option α} {s w : Bs} (h : Lib.hasPrefix s w = false) : znm take s w = none := by
  unfold znm;rw [h]; rfl
section
variable (s word : Bs) (hs : s.length ≤ 2 ^ 20) (fi : FuncId)
include s word hs fi
theorem zqg (take : Bs → Option zoq) (D : Imm) (w : World) (hH : Holds D w) (hfi : ∀ args w, (callFunc fi args).run Tryz.prog w = .ok (.enter fi args) w) (hF : ∀ p : Bs, p.length ≤ 2 ^ 20 → ∀ w', Holds D w' → Try1 fi [st p] w' ((take p).map fun x => .agg (znU x).toArray)) : Try2 141 [st s, st word, .agg #[.func (.func fi) #[] #[]]] w D (znm take s word) (fun l v D' => ∃ a n c, v = .slice a n c ∧ SlL D' 3 (l.map znU) a n) := by
  unfold Try2;refine en Tryz.func141 rfl Tryz.ntmps141 (Inv.start hH) (g [[1],[1,0,1,2]] ?_);refine WL.so (SO.box rfl rfl) rfl (zw fun b5 hb5 => ?_);refine g [[4],[3,6,5,0,1]] ?_;refine WL.cl rfl (fun w hI => zpv s word _) (g [[8],[2,8,7,6,5]] ?_);refine WL.part 16 rfl (fun g16 => ?_) (fun g16 => ?_)
  · refine WL.cl rfl (fun w hI => zmq _ _) (g [[4]] ?_);refine WC.loopT [_] (fun y : List zoq × Bs × Option Ow => [(5, pt b5), (6, owV y.2.2 y.1.length), (7, st y.2.1)]) (fun y => owH y.2.2 141 (y.1.flatMap znU) []) (fun y => znm take s word = (zmK take (y.2.1.length + 1) y.2.1).map (y.1 ++ ·) ∧ y.1.length + y.2.1.length ≤ 2 ^ 20 ∧ owP w y.2.2 y.1.length 3) (fun y => y.2.1.length) ([], Lib.trimPrefix s word, none) ⟨zol g16, by have := zmL s word; simp; omega, rfl⟩ rfl ⟨rfl, rfl, rfl, trivial⟩ ?_
    rintro ⟨l0, r, o⟩ ⟨hc, hl, ho⟩;dsimp only at hc hl ho;refine g [[2],[2,5,6,7]] ?_;refine WL.yd (Yd.neS' rfl rfl) rfl (g [[2]] ?_);refine WC.cond rfl (fun c19 => ?_) (fun c19 => ?_)
    · try simp only [zq] at c19
      refine g [[4],[5,5,6,7],[2,9,5,6,7]] ?_;refine WL.cl rfl (fun w hI => zpv r [32] _) (g [[8],[2,8,7,9,5,6]] ?_);refine WL.part 25 rfl (fun g25 => ?_) (fun g25 => ?_)
      · refine WL.cl rfl (fun w hI => zmq _ _) (g [[3],[1,7,9,5,6]] ?_);obtain ⟨r', rfl⟩ := zyY g25;refine WL.know 7 (st r') rfl (show st (Lib.trimPrefix (32 :: r') [32]) = st r' by rw [zvJ]) (g [[1]] ?_);refine WL.cl rfl (fun w hI => zvR _ _) (g [[7],[5,7,9,5,6]] ?_);rcases h36 : take (r'.takeWhile (· != 32)) with _ | x
        · refine WL.no (SO.fail (Enters.val hfi rfl rfl) (fun w hI => (hF _ (by have := znJ r'; simp at hl; omega) _ hI.imm).no (by rw [h36]; rfl)) (g [[4]] ?_));refine WP.panicBody rfl (fun w hI => .inr ⟨?_, rfl, hI.keep⟩);rw [hc, zpN h36]; rfl
        skip;refine WL.so (SO.call (Enters.val hfi rfl rfl) (fun w hI => (hF _ (by have := znJ r'; simp at hl; omega) _ hI.imm).ok (by rw [h36]; rfl))) rfl (zs ?_);refine WL.so (SO.buildSlice UnF.h SzF.h ZvF.h rfl rfl rfl rfl (cs := [_, _, _]) rfl) rfl ?_;rintro _ _ _ ⟨b37, hb37, rfl, rfl, rfl⟩;refine WL.so (SO.appendOw (o := o) (len := l0.length) (n := 1) (xs := (l0.flatMap znU)) (size := 3) [_] [_] [] rfl rfl Tryz.underlying50 Tryz.sizeOf141 Tryz.typeInfo141 Tryz.zeroValue141 rfl rfl rfl rfl ⟨rfl, .inr ⟨_, _, _, rfl, RdN.own (k := 0) (n := 3) rfl rfl⟩⟩ (za rfl) ho (zr zra _) (by omega) (by show (2 * (_ + _) + 1000) * 24 ≤ 2 ^ 48; omega) (by omega)) rfl ?_;rintro _ _ _ ⟨u1, hu1, rfl, rfl, rfl⟩;refine g [[3]] ?_;exact WP.againT (l0 ++ [x], r'.dropWhile (· != 32), some u1) ⟨by dsimp only; rw [hc, zoo h36, Option.map_map]; congr 1; funext z; simp, by have := znJ r'; simp at hl ⊢; omega, by simpa using hu1⟩ (by have := znJ r'; simp; omega) [] _ rfl (by show _ = _ ++ owH (some u1) _ ((l0 ++ [x]).flatMap znU) []; rw [List.flatMap_append]; rfl) ⟨rfl, by show _ = some (owV (some u1) (l0 ++ [_]).length); rw [List.length_append]; rfl, rfl, trivial⟩
      refine WL.nf rfl (fun w hI => qs _ _) (g [[5]] ?_);refine WP.panicBody rfl (fun w hI => .inr ⟨?_, rfl, hI.keep⟩);rw [hc, zp0 c19 g25]; rfl
    try simp only [zq] at c19
    refine g [[6],[1,6]] ?_;obtain rfl : r = [] := by simpa using c19
    refine WL.freezeOw (f := znU) (m := 3) zra [_] [] o 141 l0 rfl ho rfl (fun D2 hX2 hS2 => ?_);have hfin : znm take s word = some l0 := by rw [hc]; simp [zmK]
    refine g [[5]] ?_;refine WP.ret1 rfl rfl rfl (RV.tmp rfl) (fun w1 hI => .inl ⟨l0, _, D2, hfin, rfl, hI.keep, hI.imm, hX2, owAt o, _, _, xg (wt ho), hS2⟩)
  refine WL.nf rfl (fun w hI => qs _ _) (g [[1]] ?_);refine WP.panicBody rfl (fun w hI => .inr ⟨?_, rfl, hI.keep⟩);exact zpD g16
theorem zpO (take : Bs → Option zoD) (D : Imm) (w : World) (hH : Holds D w) (hfi : ∀ args w, (callFunc fi args).run Tryz.prog w = .ok (.enter fi args) w) (hF : ∀ p : Bs, p.length ≤ 2 ^ 20 → ∀ w', Holds D w' → Try1 fi [st p] w' ((take p).map fun x => .agg (znc x).toArray)) : Try2 146 [st s, st word, .agg #[.func (.func fi) #[] #[]]] w D (znm take s word) (fun l v D' => ∃ a n c, v = .slice a n c ∧ SlL D' 2 (l.map znc) a n) := by
  unfold Try2;refine en Tryz.func146 rfl Tryz.ntmps146 (Inv.start hH) (g [[1],[1,0,1,2]] ?_);refine WL.so (SO.box rfl rfl) rfl (zw fun b5 hb5 => ?_);refine g [[4],[3,6,5,0,1]] ?_;refine WL.cl rfl (fun w hI => zpv s word _) (g [[8],[2,8,7,6,5]] ?_);refine WL.part 16 rfl (fun g16 => ?_) (fun g16 => ?_)
  · refine WL.cl rfl (fun w hI => zmq _ _) (g [[4]] ?_);refine WC.loopT [_] (fun y : List zoD × Bs × Option Ow => [(5, pt b5), (6, owV y.2.2 y.1.length), (7, st y.2.1)]) (fun y => owH y.2.2 144 (y.1.flatMap znc) []) (fun y => znm take s word = (zmK take (y.2.1.length + 1) y.2.1).map (y.1 ++ ·) ∧ y.1.length + y.2.1.length ≤ 2 ^ 20 ∧ owP w y.2.2 y.1.length 2) (fun y => y.2.1.length) ([], Lib.trimPrefix s word, none) ⟨zol g16, by have := zmL s word; simp; omega, rfl⟩ rfl ⟨rfl, rfl, rfl, trivial⟩ ?_
    rintro ⟨l0, r, o⟩ ⟨hc, hl, ho⟩;dsimp only at hc hl ho;refine g [[2],[2,5,6,7]] ?_;refine WL.yd (Yd.neS' rfl rfl) rfl (g [[2]] ?_);refine WC.cond rfl (fun c19 => ?_) (fun c19 => ?_)
    · try simp only [zq] at c19
      refine g [[4],[5,5,6,7],[2,9,5,6,7]] ?_;refine WL.cl rfl (fun w hI => zpv r [32] _) (g [[8],[2,8,7,9,5,6]] ?_);refine WL.part 25 rfl (fun g25 => ?_) (fun g25 => ?_)
      · refine WL.cl rfl (fun w hI => zmq _ _) (g [[3],[1,7,9,5,6]] ?_);obtain ⟨r', rfl⟩ := zyY g25;refine WL.know 7 (st r') rfl (show st (Lib.trimPrefix (32 :: r') [32]) = st r' by rw [zvJ]) (g [[1]] ?_);refine WL.cl rfl (fun w hI => zvR _ _) (g [[7],[5,7,9,5,6]] ?_);rcases h36 : take (r'.takeWhile (· != 32)) with _ | x
        · refine WL.no (SO.fail (Enters.val hfi rfl rfl) (fun w hI => (hF _ (by have := znJ r'; simp at hl; omega) _ hI.imm).no (by rw [h36]; rfl)) (g [[4]] ?_));refine WP.panicBody rfl (fun w hI => .inr ⟨?_, rfl, hI.keep⟩);rw [hc, zpN h36]; rfl
        skip;refine WL.so (SO.call (Enters.val hfi rfl rfl) (fun w hI => (hF _ (by have := znJ r'; simp at hl; omega) _ hI.imm).ok (by rw [h36]; rfl))) rfl (zs ?_);refine WL.so (SO.buildSlice UnF.h SzF.h ZvF.h rfl rfl rfl rfl (cs := [_, _]) rfl) rfl ?_;rintro _ _ _ ⟨b37, hb37, rfl, rfl, rfl⟩;refine WL.so (SO.appendOw (o := o) (len := l0.length) (n := 1) (xs := (l0.flatMap znc)) (size := 2) [_] [_] [] rfl rfl Tryz.underlying51 Tryz.sizeOf144 Tryz.typeInfo144 Tryz.zeroValue144 rfl rfl rfl rfl ⟨rfl, .inr ⟨_, _, _, rfl, RdN.own (k := 0) (n := 2) rfl rfl⟩⟩ (za rfl) ho (zr znH _) (by omega) (by show (2 * (_ + _) + 1000) * 16 ≤ 2 ^ 48; omega) (by omega)) rfl ?_;rintro _ _ _ ⟨u1, hu1, rfl, rfl, rfl⟩;refine g [[3]] ?_;exact WP.againT (l0 ++ [x], r'.dropWhile (· != 32), some u1) ⟨by dsimp only; rw [hc, zoo h36, Option.map_map]; congr 1; funext z; simp, by have := znJ r'; simp at hl ⊢; omega, by simpa using hu1⟩ (by have := znJ r'; simp; omega) [] _ rfl (by show _ = _ ++ owH (some u1) _ ((l0 ++ [x]).flatMap znc) []; rw [List.flatMap_append]; rfl) ⟨rfl, by show _ = some (owV (some u1) (l0 ++ [_]).length); rw [List.length_append]; rfl, rfl, trivial⟩
      refine WL.nf rfl (fun w hI => qs _ _) (g [[5]] ?_);refine WP.panicBody rfl (fun w hI => .inr ⟨?_, rfl, hI.keep⟩);rw [hc, zp0 c19 g25]; rfl
    try simp only [zq] at c19
    refine g [[6],[1,6]] ?_;obtain rfl : r = [] := by simpa using c19
    refine WL.freezeOw (f := znc) (m := 2) znH [_] [] o 144 l0 rfl ho rfl (fun D2 hX2 hS2 => ?_);have hfin : znm take s word = some l0 := by rw [hc]; simp [zmK]
    refine g [[5]] ?_;refine WP.ret1 rfl rfl rfl (RV.tmp rfl) (fun w1 hI => .inl ⟨l0, _, D2, hfin, rfl, hI.keep, hI.imm, hX2, owAt o, _, _, xg (wt ho), hS2⟩)
  refine WL.nf rfl (fun w hI => qs _ _) (g [[1]] ?_);refine WP.panicBody rfl (fun w hI => .inr ⟨?_, rfl, hI.keep⟩);exact zpD g16
theorem znQ (take : Bs → Option zmz) (D : Imm) (w : World) (hH : Holds D w) (hfi : ∀ args w, (callFunc fi args).run Tryz.prog w = .ok (.enter fi args) w) (hF : ∀ p : Bs, p.length ≤ 2 ^ 20 → ∀ w', Holds D w' → Try1 fi [st p] w' ((take p).map fun x => .agg (bsC x).toArray)) : Try2 154 [st s, st word, .agg #[.func (.func fi) #[] #[]]] w D (znm take s word) (fun l v D' => ∃ a n c, v = .slice a n c ∧ SlL D' 5 (l.map bsC) a n) := by
  unfold Try2;refine en Tryz.func154 rfl Tryz.ntmps154 (Inv.start hH) (g [[1],[1,0,1,2]] ?_);refine WL.so (SO.box rfl rfl) rfl (zw fun b5 hb5 => ?_);refine g [[4],[3,6,5,0,1]] ?_;refine WL.cl rfl (fun w hI => zpv s word _) (g [[8],[2,8,7,6,5]] ?_);refine WL.part 16 rfl (fun g16 => ?_) (fun g16 => ?_)
  · refine WL.cl rfl (fun w hI => zmq _ _) (g [[4]] ?_);refine WC.loopT [_] (fun y : List zmz × Bs × Option Ow => [(5, pt b5), (6, owV y.2.2 y.1.length), (7, st y.2.1)]) (fun y => owH y.2.2 146 (y.1.flatMap bsC) []) (fun y => znm take s word = (zmK take (y.2.1.length + 1) y.2.1).map (y.1 ++ ·) ∧ y.1.length + y.2.1.length ≤ 2 ^ 20 ∧ owP w y.2.2 y.1.length 5) (fun y => y.2.1.length) ([], Lib.trimPrefix s word, none) ⟨zol g16, by have := zmL s word; simp; omega, rfl⟩ rfl ⟨rfl, rfl, rfl, trivial⟩ ?_
    rintro ⟨l0, r, o⟩ ⟨hc, hl, ho⟩;dsimp only at hc hl ho;refine g [[2],[2,5,6,7]] ?_;refine WL.yd (Yd.neS' rfl rfl) rfl (g [[2]] ?_);refine WC.cond rfl (fun c19 => ?_) (fun c19 => ?_)
    · try simp only [zq] at c19
      refine g [[4],[5,5,6,7],[2,9,5,6,7]] ?_;refine WL.cl rfl (fun w hI => zpv r [32] _) (g [[8],[2,8,7,9,5,6]] ?_);refine WL.part 25 rfl (fun g25 => ?_) (fun g25 => ?_)
      · refine WL.cl rfl (fun w hI => zmq _ _) (g [[3],[1,7,9,5,6]] ?_);obtain ⟨r', rfl⟩ := zyY g25;refine WL.know 7 (st r') rfl (show st (Lib.trimPrefix (32 :: r') [32]) = st r' by rw [zvJ]) (g [[1]] ?_);refine WL.cl rfl (fun w hI => zvR _ _) (g [[7],[5,7,9,5,6]] ?_);rcases h36 : take (r'.takeWhile (· != 32)) with _ | x
        · refine WL.no (SO.fail (Enters.val hfi rfl rfl) (fun w hI => (hF _ (by have := znJ r'; simp at hl; omega) _ hI.imm).no (by rw [h36]; rfl)) (g [[4]] ?_));refine WP.panicBody rfl (fun w hI => .inr ⟨?_, rfl, hI.keep⟩);rw [hc, zpN h36]; rfl
        skip;refine WL.so (SO.call (Enters.val hfi rfl rfl) (fun w hI => (hF _ (by have := znJ r'; simp at hl; omega) _ hI.imm).ok (by rw [h36]; rfl))) rfl (zs ?_);refine WL.so (SO.buildSlice UnF.h SzF.h ZvF.h rfl rfl rfl rfl (cs := [_, _, _, _, _]) rfl) rfl ?_;rintro _ _ _ ⟨b37, hb37, rfl, rfl, rfl⟩;refine WL.so (SO.appendOw (o := o) (len := l0.length) (n := 1) (xs := (l0.flatMap bsC)) (size := 5) [_] [_] [] rfl rfl Tryz.underlying57 Tryz.sizeOf146 Tryz.typeInfo146 Tryz.zeroValue146 rfl rfl rfl rfl ⟨rfl, .inr ⟨_, _, _, rfl, RdN.own (k := 0) (n := 5) rfl rfl⟩⟩ (za rfl) ho (zr zu6 _) (by omega) (by show (2 * (_ + _) + 1000) * 40 ≤ 2 ^ 48; omega) (by omega)) rfl ?_;rintro _ _ _ ⟨u1, hu1, rfl, rfl, rfl⟩;refine g [[3]] ?_;exact WP.againT (l0 ++ [x], r'.dropWhile (· != 32), some u1) ⟨by dsimp only; rw [hc, zoo h36, Option.map_map]; congr 1; funext z; simp, by have := znJ r'; simp at hl ⊢; omega, by simpa using hu1⟩ (by have := znJ r'; simp; omega) [] _ rfl (by show _ = _ ++ owH (some u1) _ ((l0 ++ [x]).flatMap bsC) []; rw [List.flatMap_append]; rfl) ⟨rfl, by show _ = some (owV (some u1) (l0 ++ [_]).length); rw [List.length_append]; rfl, rfl, trivial⟩
      refine WL.nf rfl (fun w hI => qs _ _) (g [[5]] ?_);refine WP.panicBody rfl (fun w hI => .inr ⟨?_, rfl, hI.keep⟩);rw [hc, zp0 c19 g25]; rfl
    try simp only [zq] at c19
    refine g [[6],[1,6]] ?_;obtain rfl : r = [] := by simpa using c19
    refine WL.freezeOw (f := bsC) (m := 5) zu6 [_] [] o 146 l0 rfl ho rfl (fun D2 hX2 hS2 => ?_);have hfin : znm take s word = some l0 := by rw [hc]; simp [zmK]
    refine g [[5]] ?_;refine WP.ret1 rfl rfl rfl (RV.tmp rfl) (fun w1 hI => .inl ⟨l0, _, D2, hfin, rfl, hI.keep, hI.imm, hX2, owAt o, _, _, xg (wt ho), hS2⟩)
  refine WL.nf rfl (fun w hI => qs _ _) (g [[1]] ?_);refine WP.panicBody rfl (fun w hI => .inr ⟨?_, rfl, hI.keep⟩);exact zpD g16
end
theorem zBr : zj Tryz.prog 141 [.int .i64 0, .int .i64 0, .int .i64 0] [(0, 2), (2, 1)] := ⟨⟨_, Tryz.zeroValue141, rfl⟩, _, Tryz.underlying141, fun w => by simp [Tryz.sizeOf3, Tryz.sizeOf81]⟩
abbrev zzF := SaF.mk zBr
attribute [instance] zzF
theorem zBs : zj Tryz.prog 144 [.int .i64 0, .bool false] [(0, 1), (1, 1)] := ⟨⟨_, Tryz.zeroValue144, rfl⟩, _, Tryz.underlying144, fun w => by simp [Tryz.sizeOf3, Tryz.sizeOf4]⟩
abbrev zzG := SaF.mk zBs
attribute [instance] zzG
theorem zBt : zj Tryz.prog 146 [.int .i64 0, .int .i64 0, .int .i64 0, .int .i64 0, .int .i64 0] [(0, 1), (1, 2), (3, 2)] := ⟨⟨_, Tryz.zeroValue146, rfl⟩, _, Tryz.underlying146, fun w => by simp [Tryz.sizeOf3, Tryz.sizeOf81]⟩
abbrev zzH := SaF.mk zBt
attribute [instance] zzH
def zpF : List Bs := [[], [63], [33]]
theorem zrh (k : Nat) : (gt zpF k).length ≤ 2 ^ 40 := by
  match k with
  | 0 => decide
  | 1 => decide
  | 2 => decide
  | k + 3 => exact (show (0 : Nat) ≤ 2 ^ 40 by omega)
def mkF : Nat → SKey → Option Int
  | 0 => fun _ => none
  | k + 1 => putF (mkF k) ⟨gt zpF k, zrh k⟩ (k : Int)
def ztF (s : Bs) : Option Int := match s with | [] => some 0 | [63] => some 1 | [33] => some 2 | _ => none
theorem zuT (y : SKey) : mkF 3 y = ztF y.1 := by
  obtain ⟨s, hs⟩ := y;simp only [mkF, putF, Subtype.mk.injEq];unfold ztF;have e0 : gt zpF 0 = [] := rfl;have e1 : gt zpF 1 = [63] := rfl;have e2 : gt zpF 2 = [33] := rfl;rw [e0, e1, e2];by_cases a : s = [33]
  · subst a; rfl
  by_cases b : s = [63]
  · subst b; rfl
  by_cases c : s = []
  · subst c; rfl
  rw [if_neg a, if_neg b, if_neg c];split <;> simp_all
theorem zqs (s : Bs) : ztx s = match ztF (s.drop (Lib.trimRightS s [63, 33]).length), znW (Lib.trimRightS s [63, 33]) with
  | some t, some w => some ⟨w, t⟩
  | _, _ => none := rfl
theorem zvL (s cs : Bs) : (Lib.trimRightS s cs).length ≤ s.length := by
  unfold Lib.trimRightS;have := (List.dropWhile_sublist (cs.contains ·) (l := s.reverse)).length_le
  simpa using this
theorem ztW (D : Imm) (hL : LibD true D) (w : World) (hH : Holds D w) : News Tryz.prog 144 [] w D (fun v D' h' => D = D' ∧ ∃ b es ck, v = .map (some b) ∧ h' = [(b, .map es ck)] ∧ MapR kvS es ck (mkF 3)) := by
  unfold News;obtain ⟨mt, mfz, hmk⟩ := (hL.marks rfl);refine en Tryz.func144 rfl Tryz.ntmps144 (Inv.start hH) (g [[1]] ?_);refine WC.ofFr [] trivial (g [[5],[1,0]] ?_);refine WL.so SO.makeMap rfl ?_;rintro _ _ _ ⟨b4, hb4, rfl, rfl, rfl⟩;refine g [[5],[6,1,0]] ?_;refine WC.loopT [] (fun y : Nat × Array MapEntry × Nat => [(1, .map (some b4)), (5, .agg (List.toArray [st [], st [63], st [33]])), (6, nt y.1)]) (fun y => [(b4, .map y.2.1 y.2.2)]) (fun y => y.1 ≤ 3 ∧ MapR kvS y.2.1 y.2.2 (mkF y.1)) (fun y => 3 - y.1) (0, #[], 0) ⟨Nat.zero_le _, MapR.empty kvS⟩ rfl ⟨rfl, rfl, rfl, trivial⟩ ?_;rintro ⟨k, es, ck⟩ ⟨hk, hM⟩;dsimp only at hk hM;refine g [[1],[5,1,5,6]] ?_;refine WC.cond rfl (fun c7 => ?_) (fun c7 => ?_)
  · try simp only [zq] at c7
    have hk3 : k < 3 := by omega
    refine g [[5],[2,1,5,6]] ?_;refine WL.yd (Yd.indexV UnF.h AgF.h SzF.h rfl rfl (by omega) (v := st (gt zpF k)) (by match k, hk3 with | 0, _ => rfl | 1, _ => rfl | 2, _ => rfl)) rfl (g [[4],[4,3,2,1,5,6]] ?_);refine WL.so (SO.mapPut (j := 0) zuI (WideMaps.string_law UnF.h) (kw UnF.h) UnF.h rfl (y := ⟨gt zpF k, zrh k⟩) (u := (k : Int)) rfl rfl rfl hM) rfl ?_;rintro _ _ _ ⟨rfl, es2, ck2, rfl, hM2⟩;refine g [[3],[4,1,5,6]] ?_;exact WP.againT (k + 1, es2, ck2) ⟨by dsimp only; omega, hM2⟩ (by dsimp only; omega) [] _ rfl rfl ⟨rfl, rfl, rfl, trivial⟩
  try simp only [zq] at c7
  obtain rfl : k = 3 := by omega
  refine g [[6],[6,1]] ?_;refine WP.ret1 rfl rfl rfl (RV.tmp rfl) (fun w1 hI => ⟨_, D, _, rfl, DExt.refl _ _, hI, rfl, b4, es, ck, rfl, rfl, hM⟩)
section
variable (s : Bs) (hs : s.length ≤ 2 ^ 20) (D : Imm)
include s hs D
theorem zux (hL : LibD true D) (w : World) (hH : Holds D w) : Try1 142 [st s] w ((ztx s).map fun x => .agg (znU x).toArray) := by
  unfold Try1;have htl := zvL s [63, 33];refine en Tryz.func142 rfl Tryz.ntmps142 (Inv.start hH) (g [[1],[1,0]] ?_);refine WL.so (SO.alloc ZvF.h rfl) rfl (zw fun b2 hb2 => ?_);refine g [[3],[2,2,0]] ?_;refine WL.cl rfl (fun w hI => zzp s (by omega) _) (g [[4],[0,3,2,0]] ?_);refine WC.draw (pz [3,5,7,9,0,10,13,15,17,19,21]) zk zk zX (g [[2]] ?_);refine WA.yd rfl (Yd.lenStr rfl Tryz.underlying9 rfl) rfl (WA.yd rfl (Yd.sliceFromS Tryz.underlying9 rfl rfl (by omega)) rfl ?_);refine WA.so rfl (SO.news (Enters.func CaF.h rfl) (fun w hI => ztW D hL w hI.imm)) rfl ?_;rintro _ _ _ ⟨_, _, ⟨rfl, bm, es, ck, rfl, rfl, hM⟩, rfl⟩;refine ⟨fun _ hI => hI.left, ?_⟩;refine WA.so rfl (SO.ofYd (Yd.lookOk (j := 1) zuI (WideMaps.string_law UnF.h) (kw UnF.h) UnF.h ZvF.h rfl (y := ⟨(s.drop (Lib.trimRightS s [63, 33]).length), by simp; omega⟩) rfl rfl hM)) rfl (zs ⟨fun _ hI => hI.left, ?_⟩);refine g [[8],[2,5,4,3,2]] ?_;refine WL.part 17 rfl (fun g17 => ?_) (fun g17 => ?_)
  · refine WL.cl rfl (fun w hI => zmq _ _) (g [[3],[2,4,3,2]] ?_);rcases h20 : znW (Lib.trimRightS s [63, 33]) with _ | x
    · refine WL.nf rfl (fun w hI => (zqc _ (by omega) D hL _ hI.imm).no (by rw [h20]; rfl)) (g [[1]] ?_);refine WP.panicBody rfl (fun w hI => ⟨zmx ?_, hI.keep⟩);rw [zqs];rw [zuT] at g17;rw [h20]; cases ztF _ <;> rfl
    skip;refine WL.cl rfl (fun w hI => (zqc _ (by omega) D hL _ hI.imm).ok (by rw [h20]; rfl)) (g [[6]] ?_);refine WP.ret1 rfl rfl rfl (RV.cellN AgF.h SzF.h rfl (vs := [_, _, _]) rfl (RdN.own (k := 0) (n := 3) rfl rfl)) (fun w hI => ⟨?_, hI.keep⟩);rw [zuT] at g17 ⊢;cases hm : ztF (s.drop (Lib.trimRightS s [63, 33]).length) with
    | none => rw [hm] at g17; cases g17
    | some t => exact znA (by rw [zqs, h20, hm]; rfl)
  refine WL.nf rfl (fun w hI => qs _ _) (g [[1]] ?_);refine WP.panicBody rfl (fun w hI => ⟨zmx ?_, hI.keep⟩);rw [zqs];rw [zuT] at g17
  cases hm : ztF (s.drop (Lib.trimRightS s [63, 33]).length) with
      | none => rfl
      | some t => rw [hm] at g17; cases g17
section
variable {kM : Bool} (hL : LibD kM D) (w : World) (hH : Holds D w)
include kM hL w hH
theorem zsH : Try1 147 [st s] w ((zpA s).map fun x => .agg (znc x).toArray) := by
  unfold Try1;refine en Tryz.func147 rfl Tryz.ntmps147 (Inv.start hH) (g [[1],[1,0]] ?_);refine WL.so (SO.alloc ZvF.h rfl) rfl (zw fun b2 hb2 => ?_);refine g [[3],[2,2,0]] ?_;refine WL.cl rfl (fun w hI => zAg s [43] (by omega) _) (g [[8],[2,4,3,2]] ?_);refine WL.cl rfl (fun w hI => zvM _ [45] (by have := znI s [43]; omega) _) ?_;rcases h12 : numP (Lib.trimSuffix (Lib.trimSuffix s [43]) [45]) with _ | x
  · refine WL.nf rfl (fun w hI => (Js _ (by have h1 := znI s [43]; have h2 := znI (Lib.trimSuffix s [43]) [45]; omega) D hL _ hI.imm).no (by rw [h12]; rfl)) (g [[1]] ?_);refine WP.panicBody rfl (fun w hI => ⟨zmx (by unfold zpA; rw [h12]; rfl), hI.keep⟩)
  skip;refine WL.cl rfl (fun w hI => (Js _ (by have h1 := znI s [43]; have h2 := znI (Lib.trimSuffix s [43]) [45]; omega) D hL _ hI.imm).ok (by rw [h12]; rfl)) (g [[6]] ?_);refine WP.ret1 rfl rfl rfl (RV.cellN AgF.h SzF.h rfl (vs := [_, _]) rfl (RdN.own (k := 0) (n := 2) rfl rfl)) (fun w hI => ⟨znA (by unfold zpA; rw [h12]; rfl), hI.keep⟩)
theorem zph : Try1 155 [st s] w ((znz s).map fun x => .agg (bsC x).toArray) := by
  unfold Try1;have hc1 := zpw s [64];have hc2 := zpw (Lib.cut s [64]).2.1 [44];refine en Tryz.func155 rfl Tryz.ntmps155 (Inv.start hH) (g [[1],[1,0]] ?_);refine WL.so (SO.alloc ZvF.h rfl) rfl (zw fun b2 hb2 => ?_);refine g [[3],[2,2,0]] ?_;refine WL.cl rfl (fun w hI => zuc s [64] hs D hL _ hI.imm) (g [[10],[2,5,4,3,2]] ?_);refine WL.cl rfl (fun w hI => zuc _ [44] (by omega) D hL _ hI.imm) (g [[10],[3,8,7,6,5,3,2]] ?_);refine WL.part 22 rfl (fun g22 => ?_) (fun g22 => ?_)
  · refine g [[2]] ?_;refine WL.part 24 rfl (fun g24 => ?_) (fun g24 => ?_)
    · refine WL.cl rfl (fun w hI => zmq _ _) (g [[3],[2,7,6,3,2]] ?_);rcases h27 : numP (Lib.cut s [64]).1 with _ | x
      · refine WL.nf rfl (fun w hI => (Js _ (by omega) D hL _ hI.imm).no (by rw [h27]; rfl)) (g [[1]] ?_);refine WP.panicBody rfl (fun w hI => ⟨zmx (by simp_all [znz]), hI.keep⟩)
      skip;refine WL.cl rfl (fun w hI => (Js _ (by omega) D hL _ hI.imm).ok (by rw [h27]; rfl)) (g [[1]] ?_);rcases h29 : znW (Lib.cut (Lib.cut s [64]).2.1 [44]).1 with _ | y
      · refine WL.nf rfl (fun w hI => (zqc _ (by omega) D hL _ hI.imm).no (by rw [h29]; rfl)) (g [[1]] ?_);refine WP.panicBody rfl (fun w hI => ⟨zmx (by simp_all [znz]), hI.keep⟩)
      skip;refine WL.cl rfl (fun w hI => (zqc _ (by omega) D hL _ hI.imm).ok (by rw [h29]; rfl)) (g [[1]] ?_);rcases h31 : znW (Lib.cut (Lib.cut s [64]).2.1 [44]).2.1 with _ | z
      · refine WL.nf rfl (fun w hI => (zqc _ (by omega) D hL _ hI.imm).no (by rw [h31]; rfl)) (g [[1]] ?_);refine WP.panicBody rfl (fun w hI => ⟨zmx (by simp_all [znz]), hI.keep⟩)
      skip;refine WL.cl rfl (fun w hI => (zqc _ (by omega) D hL _ hI.imm).ok (by rw [h31]; rfl)) (g [[5]] ?_);refine WP.ret1 rfl rfl rfl (RV.cellN AgF.h SzF.h rfl (vs := [_, _, _, _, _]) rfl (RdN.own (k := 0) (n := 5) rfl rfl)) (fun w hI => ⟨znA ((congrArg (Option.map _) (show znz s = some ⟨x, y, z⟩ by simp_all [znz])).trans rfl), hI.keep⟩)
    refine WL.nf rfl (fun w hI => qs _ _) (g [[1]] ?_);refine WP.panicBody rfl (fun w hI => ⟨zmx (by simp_all [znz]), hI.keep⟩)
  refine g [[2]] ?_;refine WL.nf rfl (fun w hI => qs _ _) (g [[1]] ?_);refine WP.panicBody rfl (fun w hI => ⟨zmx (by simp_all [znz]), hI.keep⟩)
end
end
structure Sl where
  a : Option Addr
  n : Nat
  c : Nat
deriving Inhabited
abbrev slV (s : Sl) : Value := .slice s.a s.n s.c
def hutC (h : Hut) : List Value := [it h.floor, it h.brake, it h.row]
theorem zob : ∀ s, (hutC s).length = 3 := fun _ => rfl
structure zn4 where
  w : Sl
  v : Sl
  h : Sl
deriving Inhabited
abbrev zno (s : Surf) (m : zn4) : Value := .agg #[it s.rows, it s.step, slV m.w, slV m.v, slV m.h]
abbrev zB5 (s : Surf) (m : zn4) : List Value := [it s.rows, it s.step, slV m.w, slV m.v, slV m.h]
structure zn1 (D : Imm) (s : Surf) (m : zn4) : Prop where
  w : SlL D 2 (s.water.map spC) m.w.a m.w.n
  v : SlL D 2 (s.waves.map spC) m.v.a m.v.n
  h : SlL D 3 (s.huts.map hutC) m.h.a m.h.n
  nw : m.w.n ≤ 9223372036854775807
  nv : m.v.n ≤ 9223372036854775807
  nh : m.h.n ≤ 9223372036854775807
theorem zn1.ext {w : World} {D D' : Imm} (hD : DExt w D D') {s : Surf} {m : zn4} (h : zn1 D s m) : zn1 D' s m := ⟨h.w.ext hD, h.v.ext hD, h.h.ext hD, h.nw, h.nv, h.nh⟩
structure zmG where
  h : Sl
  s : Sl
deriving Inhabited
abbrev znT (f : Flag) (m : zmG) : Value := .agg #[it f.low, it f.high, it f.quiet, slV m.h, slV m.s]
abbrev zAq (f : Flag) (m : zmG) : List Value := [it f.low, it f.high, it f.quiet, slV m.h, slV m.s]
structure znr (D : Imm) (f : Flag) (m : zmG) : Prop where
  h : SlL D 3 (f.hours.map znU) m.h.a m.h.n
  s : SlL D 2 (f.seen.map znc) m.s.a m.s.n
  nh : m.h.n ≤ 9223372036854775807
  ns : m.s.n ≤ 9223372036854775807
theorem znr.ext {w : World} {D D' : Imm} (hD : DExt w D D') {s : Flag} {m : zmG} (h : znr D s m) : znr D' s m := ⟨h.h.ext hD, h.s.ext hD, h.nh, h.ns⟩
structure zmn where
  sl : Sl
  l : List Sl
deriving Inhabited
def slC (s : Sl) : List Value := [slV s]
abbrev zmP (b : xb) (m : zmn) : Value := .agg #[it b.wide, it b.deep, it b.speed, it b.last, slV m.sl]
abbrev zxX (b : xb) (m : zmn) : List Value := [it b.wide, it b.deep, it b.speed, it b.last, slV m.sl]
structure zmv (D : Imm) (b : xb) (m : zmn) : Prop where
  sl : SlL D 1 (m.l.map slC) m.sl.a m.sl.n
  len : m.l.length = b.seen.length
  row : ∀ i, i < b.seen.length → SlL D 5 ((gt b.seen i).map bsC) (gt m.l i).a (gt m.l i).n
  n : m.sl.n ≤ 9223372036854775807
  nr : ∀ i, i < b.seen.length → (gt m.l i).n ≤ 9223372036854775807
theorem zmv.ext {w : World} {D D' : Imm} (hD : DExt w D D') {s : xb} {m : zmn} (h : zmv D s m) : zmv D' s m := ⟨h.sl.ext hD, h.len, fun i hi => (h.row i hi).ext hD, h.n, h.nr⟩
theorem zmB {α : Type} [Inhabited α] {l : List α} {p : α → Bool} {k : Nat} (h : k < l.length) : (l.take (k + 1)).all p = ((l.take k).all p && p (gt l k)) := by
  have : gt l k = l[k] := by simp [gt, List.getD, h]
  rw [List.take_succ_eq_append_getElem h, List.all_append, this];simp
theorem bs1 {A P p r : Bool} (h : (A && P) = true → r = p) (h2 : (A && P) = false → r = false) : r = (A && (P && p)) := by
  cases A <;> cases P <;> cases p <;> simp_all
theorem bs2 {A P Q p q r : Bool} (h : (A && P && Q) = true → p = true → r = q) (h1 : (A && P && Q) = true → p = false → r = false) (h2 : (A && P && Q) = false → r = false) : r = (A && (P && p) && (Q && q)) := by
  cases A <;> cases P <;> cases Q <;> cases p <;> cases q <;> simp_all
theorem bs3 {A P p q u r : Bool} (h : (A && P) = true → p = true → q = true → r = u) (h1 : (A && P) = true → p = true → q = false → r = false) (h2 : (A && P) = true → p = false → r = false) (h3 : (A && P) = false → r = false) : r = (A && (P && (p && q && u))) := by
  cases A <;> cases P <;> cases p <;> cases q <;> cases u <;> simp_all
theorem bs4 {A P p q r : Bool} (h : (A && P) = true → p = true → r = q) (h1 : (A && P) = true → p = false → r = false) (h2 : (A && P) = false → r = false) : r = (A && (P && (p && q))) := by
  cases A <;> cases P <;> cases p <;> cases q <;> simp_all
theorem bs5 {X P p q u r : Bool} (h : (X && P) = true → p = true → q = true → r = u) (h1 : (X && P) = true → p = true → q = false → r = false) (h2 : (X && P) = true → p = false → r = false) (h3 : (X && P) = false → r = false) : r = (X && (P && (p && q && u))) := by
  cases X <;> cases P <;> cases p <;> cases q <;> cases u <;> simp_all
theorem bjF {X Y : Bool} (h : X = false) : false = (X && Y) := by simp [h]
theorem xx {a b : Bool} (h : a = b) : some (Value.bool a) = some (Value.bool b) := by rw [h]
theorem zmT (n lo hi : Int) (w : World) : z8 Tryz.prog 116 [it n, it lo, it hi] w (.bool (inB n lo hi)) := by
  unfold z8;refine en Tryz.func116 rfl Tryz.ntmps116 zI (g [[1],[5,0,1,2],[5,6,0,1,2]] ?_);refine WL.part 10 rfl (fun g10 => ?_) (fun g10 => ?_)
  · try simp only [zq] at g10
    refine g [[8]] ?_;refine WP.ret1 rfl rfl rfl (RV.tmp rfl) (fun w hI => ⟨zb (by rw [Bool.eq_iff_iff]; simp [inB]; omega), hI.keep⟩)
  try simp only [zq] at g10
  refine g [[8]] ?_;refine WP.ret1 rfl rfl rfl (RV.tmp rfl) (fun w hI => ⟨zb (by rw [Bool.eq_iff_iff]; simp [inB]; omega), hI.keep⟩)
theorem Xv (s : Sp) (lo hi : Int) (w : World) : z8 Tryz.prog 117 [.agg #[it s.lo, it s.hi], it lo, it hi] w (.bool (spB s lo hi)) := by
  unfold z8;refine en Tryz.func117 rfl Tryz.ntmps117 zI (g [[1],[1,0,1,2]] ?_);refine WL.so (SO.box rfl rfl) rfl (zw fun b3 hb3 => ?_);refine g [[4],[6,6,3,1,2]] ?_;refine WL.part 11 rfl (fun g11 => ?_) (fun g11 => ?_)
  · try simp only [zq] at g11
    refine g [[7]] ?_;refine WL.part 18 rfl (fun g18 => ?_) (fun g18 => ?_)
    · try simp only [zq] at g18
      refine g [[9]] ?_;refine WP.ret1 rfl rfl rfl (RV.tmp rfl) (fun w hI => ⟨zb (by rw [Bool.eq_iff_iff]; simp [spB]; omega), hI.keep⟩)
    try simp only [zq] at g18
    refine g [[9]] ?_;refine WP.ret1 rfl rfl rfl (RV.tmp rfl) (fun w hI => ⟨zb (by rw [Bool.eq_iff_iff]; simp [spB]; omega), hI.keep⟩)
  try simp only [zq] at g11
  refine g [[16]] ?_;refine WP.ret1 rfl rfl rfl (RV.tmp rfl) (fun w hI => ⟨zb (by rw [Bool.eq_iff_iff]; simp [spB]; omega), hI.keep⟩)
theorem zxz (s : Sp) (hi : Int) (hh : hi ≤ 100) (w : World) : z8 Tryz.prog 185 [.agg #[it s.lo, it s.hi], it hi] w (.bool (ZP s hi)) := by
  unfold z8;refine en Tryz.func185 rfl Tryz.ntmps185 zI (g [[1],[1,0,1]] ?_);refine WL.so (SO.box rfl rfl) rfl (zw fun b2 hb2 => ?_);refine g [[4],[3,4,2,1]] ?_;refine WL.cl rfl (fun w hI => Xv s 0 hi _) (g [[1]] ?_);refine WL.part 8 rfl (fun g8 => ?_) (fun g8 => ?_)
  · have hsp := znh.1 g8;refine g [[11]] ?_;refine WP.ret1 rfl rfl rfl (RV.tmp rfl) (fun w hI => ⟨zb (by simp_all [ZP]), hI.keep⟩)
  refine g [[11]] ?_;refine WP.ret1 rfl rfl rfl (RV.tmp rfl) (fun w hI => ⟨zb (by simp_all [ZP]), hI.keep⟩)
theorem ztE (s : Surf) (h : s.waves.length = s.water.length) : (((inB s.rows 1 6 && inB s.step 0 4 && decide (s.water.length ≤ 8) && decide (s.huts.length ≤ 5)) && (s.water.take s.water.length).all (ZP · 30) && (s.waves.take s.water.length).all (ZP · 10)) && (s.huts.take s.huts.length).all (hutB s.rows)) = zn8 s := by
  have e : decide (s.waves.length = s.water.length) = true := by simp [h]
  simp only [zn8, e, Bool.and_true, List.take_length];rw [List.take_of_length_le (l := s.waves) (by omega)]
  first | done | ac_rfl
theorem zuD (s : Surf) (h : s.water.length ≠ s.waves.length) : false = zn8 s := by
  have e : decide (s.waves.length = s.water.length) = false := by simp; omega
  simp [zn8, e]
theorem zqu (s : Surf) (m : zn4) (D : Imm) (w : World) (hR : zn1 D s m) (hH : Holds D w) : z8 Tryz.prog 131 [zno s m] w (.bool (zn8 s)) := by
  unfold z8;obtain ⟨⟨wa, wn, wc⟩, ⟨va, vn, vc⟩, ⟨ha, hn, hc⟩⟩ := m;obtain rfl : wn = s.water.length := hR.w.len';obtain rfl : vn = s.waves.length := hR.v.len';obtain rfl : hn = s.huts.length := hR.h.len';have hRw : SlL D 2 (s.water.map spC) wa s.water.length := hR.w;have hRv : SlL D 2 (s.waves.map spC) va s.waves.length := hR.v;have hRh : SlL D 3 (s.huts.map hutC) ha s.huts.length := hR.h;have nw : s.water.length ≤ 9223372036854775807 := hR.nw;have nv : s.waves.length ≤ 9223372036854775807 := hR.nv;have nh : s.huts.length ≤ 9223372036854775807 := hR.nh;refine en Tryz.func131 rfl Tryz.ntmps131 (Inv.start hH) (g [[1],[1,0]] ?_);refine WL.so (SO.box rfl rfl) rfl (zw fun b1 hb1 => ?_);refine g [[5],[10,2,1]] ?_;refine WC.cond rfl (fun c15 => ?_) (fun c15 => ?_)
  · try simp only [zq] at c15
    refine g [[1],[6,2,1]] ?_;refine WP.ret1 rfl rfl rfl (RV.tmp rfl) (fun w hI => ⟨zb (zuD s (by omega)), hI.keep⟩)
  try simp only [zq] at c15
  refine g [[2]] ?_;refine WC.seqJ (α := Unit) (fun _ => [(1, pt b1), (3, .bool (inB s.rows 1 6 && inB s.step 0 4 && decide (s.water.length ≤ 8) && decide (s.huts.length ≤ 5)))]) (fun _ => [(b1, .cells (List.toArray [it s.rows, it s.step, .slice wa s.water.length wc, .slice va s.waves.length vc, .slice ha s.huts.length hc]) 49 (0, 0))]) (fun _ => D) (fun _ => True) ?_ ?_
  · rintro _ -;refine g [[1]] ?_;skip;refine g [[6,1,3],[8,4,1,3]] ?_;refine WC.loopF (fun k : Nat => [(1, pt b1), (3, .bool ((inB s.rows 1 6 && inB s.step 0 4 && decide (s.water.length ≤ 8) && decide (s.huts.length ≤ 5)) && (s.water.take k).all (ZP · 30) && (s.waves.take k).all (ZP · 10))), (4, .func (.func 185) #[] #[]), (37, .slice wa s.water.length wc), (38, nt s.water.length), (39, nt k)]) (fun k => k ≤ s.water.length) (fun k => s.water.length - k) 0 (Nat.zero_le _) ⟨rfl, xx (by simp), rfl, rfl, rfl, rfl, trivial⟩ ?_
    intro k hk;refine g [[1],[5,1,3,4,37,38,39]] ?_;refine WC.cond rfl (fun c40 => ?_) (fun c40 => ?_)
    · try simp only [zq] at c40
      have hkl : k < s.water.length := by omega
      refine g [[5],[2,1,3,4,37,38,39]] ?_;refine WL.yd (Yd.ix rfl rfl (hRw.addr k (by omega))) rfl (WL.yd (Yd.lV [_, _] rfl ((hRw.at k (by omega)).rdn 0 2 rfl)) rfl ?_);refine WL.so (SO.alloc ZvF.h rfl) rfl (zw fun b6 hb6 => ?_);refine g [[4],[3,5,6,1,3,4,37,38,39]] ?_;refine WL.part 45 rfl (fun g45 => ?_) (fun g45 => ?_)
      · refine g [[2]] ?_;refine WL.sog rfl (SO.call (Enters.val CaF.h rfl rfl) (fun w hI => zxz (gt s.water k) 30 (by omega) _)) rfl (zs (g [[2]] ?_));refine WL.part 50 rfl (fun g50 => ?_) (fun g50 => ?_)
        · refine g [[4]] ?_;refine WL.ydg rfl (Yd.ix rfl rfl (hRv.addr k (by omega))) rfl (WL.ydg rfl (Yd.lV [_, _] rfl ((hRv.at k (by omega)).rdn 0 2 rfl)) rfl ?_);refine WL.sog rfl (SO.call (Enters.val CaF.h rfl rfl) (fun w hI => zxz (gt s.waves k) 10 (by omega) _)) rfl (zs (g [[5],[4,3,1,4,37,38,39]] ?_));exact WP.againF (k + 1) hkl (by omega) ⟨rfl, xx (by rw [zmB hkl, zmB (l := s.waves) (by omega)]; exact bs2 (fun a b => by first | rfl | assumption | (exact bnc a (by assumption)) | (exact bnc (by assumption) a) | (exact bnc b (by assumption)) | (exact bnc (by assumption) b) | (exact bnc c (by assumption)) | (exact bnc (by assumption) c)) (fun a b => by first | rfl | assumption | (exact bnc a (by assumption)) | (exact bnc (by assumption) a) | (exact bnc b (by assumption)) | (exact bnc (by assumption) b) | (exact bnc c (by assumption)) | (exact bnc (by assumption) c)) (fun a => by first | rfl | assumption | (exact bnc a (by assumption)) | (exact bnc (by assumption) a) | (exact bnc b (by assumption)) | (exact bnc (by assumption) b) | (exact bnc c (by assumption)) | (exact bnc (by assumption) c))), rfl, rfl, rfl, rfl, trivial⟩ (fun _ h => List.mem_cons_of_mem _ h) (fun h => (List.nodup_cons.1 h).2)
        refine g [[12],[4,3,1,4,37,38,39]] ?_;exact WP.againF (k + 1) hkl (by omega) ⟨rfl, xx (by rw [zmB hkl, zmB (l := s.waves) (by omega)]; exact bs2 (fun a b => by first | rfl | assumption | (exact bnc a (by assumption)) | (exact bnc (by assumption) a) | (exact bnc b (by assumption)) | (exact bnc (by assumption) b) | (exact bnc c (by assumption)) | (exact bnc (by assumption) c)) (fun a b => by first | rfl | assumption | (exact bnc a (by assumption)) | (exact bnc (by assumption) a) | (exact bnc b (by assumption)) | (exact bnc (by assumption) b) | (exact bnc c (by assumption)) | (exact bnc (by assumption) c)) (fun a => by first | rfl | assumption | (exact bnc a (by assumption)) | (exact bnc (by assumption) a) | (exact bnc b (by assumption)) | (exact bnc (by assumption) b) | (exact bnc c (by assumption)) | (exact bnc (by assumption) c))), rfl, rfl, rfl, rfl, trivial⟩ (fun _ h => List.mem_cons_of_mem _ h) (fun h => (List.nodup_cons.1 h).2)
      refine g [[17],[4,3,1,4,37,38,39]] ?_;exact WP.againF (k + 1) hkl (by omega) ⟨rfl, xx (by rw [zmB hkl, zmB (l := s.waves) (by omega)]; exact bs2 (fun a b => by first | rfl | assumption | (exact bnc a (by assumption)) | (exact bnc (by assumption) a) | (exact bnc b (by assumption)) | (exact bnc (by assumption) b) | (exact bnc c (by assumption)) | (exact bnc (by assumption) c)) (fun a b => by first | rfl | assumption | (exact bnc a (by assumption)) | (exact bnc (by assumption) a) | (exact bnc b (by assumption)) | (exact bnc (by assumption) b) | (exact bnc c (by assumption)) | (exact bnc (by assumption) c)) (fun a => by first | rfl | assumption | (exact bnc a (by assumption)) | (exact bnc (by assumption) a) | (exact bnc b (by assumption)) | (exact bnc (by assumption) b) | (exact bnc c (by assumption)) | (exact bnc (by assumption) c))), rfl, rfl, rfl, rfl, trivial⟩ (fun _ h => List.mem_cons_of_mem _ h) (fun h => (List.nodup_cons.1 h).2)
    try simp only [zq] at c40
    obtain rfl : k = s.water.length := by omega
    refine g [[7],[8,1,3]] ?_;refine WC.loopF (fun k : Nat => [(1, pt b1), (3, .bool (((inB s.rows 1 6 && inB s.step 0 4 && decide (s.water.length ≤ 8) && decide (s.huts.length ≤ 5)) && (s.water.take s.water.length).all (ZP · 30) && (s.waves.take s.water.length).all (ZP · 10)) && (s.huts.take k).all (hutB s.rows))), (61, .slice ha s.huts.length hc), (62, nt s.huts.length), (63, nt k)]) (fun k => k ≤ s.huts.length) (fun k => s.huts.length - k) 0 (Nat.zero_le _) ⟨rfl, xx (by simp), rfl, rfl, rfl, trivial⟩ ?_
    intro k hk;refine g [[1],[5,1,3,61,62,63]] ?_;refine WC.cond rfl (fun c64 => ?_) (fun c64 => ?_)
    · try simp only [zq] at c64
      have hkl : k < s.huts.length := by omega
      refine g [[5],[1,1,3,61,62,63]] ?_;refine WL.yd (Yd.ix rfl rfl (hRh.addr k (by omega))) rfl (WL.yd (Yd.lV [_, _, _] rfl ((hRh.at k (by omega)).rdn 0 3 rfl)) rfl ?_);refine WL.so (SO.alloc ZvF.h rfl) rfl (zw fun b8 hb8 => ?_);refine g [[3],[3,8,1,3,61,62,63]] ?_;refine WL.part 68 rfl (fun g68 => ?_) (fun g68 => ?_)
      · refine g [[2]] ?_;refine WL.sog rfl (SO.callP CaF.h rfl (fun w hI => zmT _ _ _ _)) rfl (zs (g [[2]] ?_));refine WL.part 73 rfl (fun g73 => ?_) (fun g73 => ?_)
        · refine g [[2]] ?_;refine WL.sog rfl (SO.callP CaF.h rfl (fun w hI => zmT _ _ _ _)) rfl (zs (g [[2]] ?_));refine WL.part 78 rfl (fun g78 => ?_) (fun g78 => ?_)
          · have hrw : 1 ≤ s.rows ∧ s.rows ≤ 6 := by simp only [Bool.and_eq_true, zmQ] at *; omega
            refine g [[5]] ?_;refine WL.sog rfl (SO.callP CaF.h rfl (fun w hI => zmT _ _ _ _)) rfl (zs (g [[5],[4,3,1,61,62,63]] ?_));exact WP.againF (k + 1) hkl (by omega) ⟨rfl, xx (by rw [zmB hkl]; exact bs3 (fun a b c => by first | rfl | assumption | (exact bnc a (by assumption)) | (exact bnc (by assumption) a) | (exact bnc b (by assumption)) | (exact bnc (by assumption) b) | (exact bnc c (by assumption)) | (exact bnc (by assumption) c)) (fun a b c => by first | rfl | assumption | (exact bnc a (by assumption)) | (exact bnc (by assumption) a) | (exact bnc b (by assumption)) | (exact bnc (by assumption) b) | (exact bnc c (by assumption)) | (exact bnc (by assumption) c)) (fun a b => by first | rfl | assumption | (exact bnc a (by assumption)) | (exact bnc (by assumption) a) | (exact bnc b (by assumption)) | (exact bnc (by assumption) b) | (exact bnc c (by assumption)) | (exact bnc (by assumption) c)) (fun a => by first | rfl | assumption | (exact bnc a (by assumption)) | (exact bnc (by assumption) a) | (exact bnc b (by assumption)) | (exact bnc (by assumption) b) | (exact bnc c (by assumption)) | (exact bnc (by assumption) c))), rfl, rfl, rfl, trivial⟩ (fun _ h => List.mem_cons_of_mem _ h) (fun h => (List.nodup_cons.1 h).2)
          refine g [[11],[4,3,1,61,62,63]] ?_;exact WP.againF (k + 1) hkl (by omega) ⟨rfl, xx (by rw [zmB hkl]; exact bs3 (fun a b c => by first | rfl | assumption | (exact bnc a (by assumption)) | (exact bnc (by assumption) a) | (exact bnc b (by assumption)) | (exact bnc (by assumption) b) | (exact bnc c (by assumption)) | (exact bnc (by assumption) c)) (fun a b c => by first | rfl | assumption | (exact bnc a (by assumption)) | (exact bnc (by assumption) a) | (exact bnc b (by assumption)) | (exact bnc (by assumption) b) | (exact bnc c (by assumption)) | (exact bnc (by assumption) c)) (fun a b => by first | rfl | assumption | (exact bnc a (by assumption)) | (exact bnc (by assumption) a) | (exact bnc b (by assumption)) | (exact bnc (by assumption) b) | (exact bnc c (by assumption)) | (exact bnc (by assumption) c)) (fun a => by first | rfl | assumption | (exact bnc a (by assumption)) | (exact bnc (by assumption) a) | (exact bnc b (by assumption)) | (exact bnc (by assumption) b) | (exact bnc c (by assumption)) | (exact bnc (by assumption) c))), rfl, rfl, rfl, trivial⟩ (fun _ h => List.mem_cons_of_mem _ h) (fun h => (List.nodup_cons.1 h).2)
        refine g [[16],[4,3,1,61,62,63]] ?_;exact WP.againF (k + 1) hkl (by omega) ⟨rfl, xx (by rw [zmB hkl]; exact bs3 (fun a b c => by first | rfl | assumption | (exact bnc a (by assumption)) | (exact bnc (by assumption) a) | (exact bnc b (by assumption)) | (exact bnc (by assumption) b) | (exact bnc c (by assumption)) | (exact bnc (by assumption) c)) (fun a b c => by first | rfl | assumption | (exact bnc a (by assumption)) | (exact bnc (by assumption) a) | (exact bnc b (by assumption)) | (exact bnc (by assumption) b) | (exact bnc c (by assumption)) | (exact bnc (by assumption) c)) (fun a b => by first | rfl | assumption | (exact bnc a (by assumption)) | (exact bnc (by assumption) a) | (exact bnc b (by assumption)) | (exact bnc (by assumption) b) | (exact bnc c (by assumption)) | (exact bnc (by assumption) c)) (fun a => by first | rfl | assumption | (exact bnc a (by assumption)) | (exact bnc (by assumption) a) | (exact bnc b (by assumption)) | (exact bnc (by assumption) b) | (exact bnc c (by assumption)) | (exact bnc (by assumption) c))), rfl, rfl, rfl, trivial⟩ (fun _ h => List.mem_cons_of_mem _ h) (fun h => (List.nodup_cons.1 h).2)
      refine g [[21],[4,3,1,61,62,63]] ?_;exact WP.againF (k + 1) hkl (by omega) ⟨rfl, xx (by rw [zmB hkl]; exact bs3 (fun a b c => by first | rfl | assumption | (exact bnc a (by assumption)) | (exact bnc (by assumption) a) | (exact bnc b (by assumption)) | (exact bnc (by assumption) b) | (exact bnc c (by assumption)) | (exact bnc (by assumption) c)) (fun a b c => by first | rfl | assumption | (exact bnc a (by assumption)) | (exact bnc (by assumption) a) | (exact bnc b (by assumption)) | (exact bnc (by assumption) b) | (exact bnc c (by assumption)) | (exact bnc (by assumption) c)) (fun a b => by first | rfl | assumption | (exact bnc a (by assumption)) | (exact bnc (by assumption) a) | (exact bnc b (by assumption)) | (exact bnc (by assumption) b) | (exact bnc c (by assumption)) | (exact bnc (by assumption) c)) (fun a => by first | rfl | assumption | (exact bnc a (by assumption)) | (exact bnc (by assumption) a) | (exact bnc b (by assumption)) | (exact bnc (by assumption) b) | (exact bnc c (by assumption)) | (exact bnc (by assumption) c))), rfl, rfl, rfl, trivial⟩ (fun _ h => List.mem_cons_of_mem _ h) (fun h => (List.nodup_cons.1 h).2)
    try simp only [zq] at c64
    obtain rfl : k = s.huts.length := by omega
    refine g [[6],[6,3]] ?_;refine WP.ret1 rfl rfl rfl (RV.tmp rfl) (fun w hI => ⟨zb (ztE s (by omega)), hI.keep⟩)
  skip;refine g [[3,2,1]] ?_;refine WL.cl rfl (fun w hI => zmT _ _ _ _) (g [[1]] ?_);refine WL.part 19 rfl (fun g19 => ?_) (fun g19 => ?_)
  · refine g [[2]] ?_;refine WL.sog rfl (SO.callP CaF.h rfl (fun w hI => zmT _ _ _ _)) rfl (zs (g [[2]] ?_));refine WL.part 24 rfl (fun g24 => ?_) (fun g24 => ?_)
    · refine g [[6]] ?_;refine WL.part 30 rfl (fun g30 => ?_) (fun g30 => ?_)
      · try simp only [zq] at g30
        refine g [[7]] ?_;exact WP.join () trivial (fun a w h => yi h ⟨rfl, xx (by first | (simp_all; done) | (rw [Bool.eq_iff_iff]; simp_all; done) | (rw [Bool.eq_iff_iff]; simp_all; omega)), trivial⟩ (fun _ h => h) (fun h => h))
      try simp only [zq] at g30
      refine g [[7]] ?_;exact WP.join () trivial (fun a w h => yi h ⟨rfl, xx (by first | (simp_all; done) | (rw [Bool.eq_iff_iff]; simp_all; done) | (rw [Bool.eq_iff_iff]; simp_all; omega)), trivial⟩ (fun _ h => h) (fun h => h))
    refine g [[13]] ?_;exact WP.join () trivial (fun a w h => yi h ⟨rfl, xx (by first | (simp_all; done) | (rw [Bool.eq_iff_iff]; simp_all; done) | (rw [Bool.eq_iff_iff]; simp_all; omega)), trivial⟩ (fun _ h => h) (fun h => h))
  refine g [[18]] ?_;exact WP.join () trivial (fun a w h => yi h ⟨rfl, xx (by first | (simp_all; done) | (rw [Bool.eq_iff_iff]; simp_all; done) | (rw [Bool.eq_iff_iff]; simp_all; omega)), trivial⟩ (fun _ h => h) (fun h => h))
theorem ztB (f : Flag) : (((decide (1 ≤ f.low) && decide (f.low ≤ f.high) && decide (f.high ≤ 12) && inB f.quiet 1 4 && decide (f.hours.length ≤ 9) && decide (f.seen.length ≤ 8)) && (f.hours.take f.hours.length).all zuw) && (f.seen.take f.seen.length).all fun s => inB s.hour 0 ((f.hours.length : Int) - 1)) = znf f := by
  have e : decide (1 ≤ f.low ∧ f.low ≤ f.high ∧ f.high ≤ 12) = (decide (1 ≤ f.low) && decide (f.low ≤ f.high) && decide (f.high ≤ 12)) := by
    rw [Bool.eq_iff_iff]; simp; omega
  simp only [znf, e, List.take_length]
theorem zqt (f : Flag) (m : zmG) (D : Imm) (w : World) (hR : znr D f m) (hH : Holds D w) : z8 Tryz.prog 138 [znT f m] w (.bool (znf f)) := by
  unfold z8;obtain ⟨⟨ha, hn, hc⟩, ⟨sa, sn, sc⟩⟩ := m;obtain rfl : hn = f.hours.length := hR.h.len';obtain rfl : sn = f.seen.length := hR.s.len';have hRh : SlL D 3 (f.hours.map znU) ha f.hours.length := hR.h;have hRs : SlL D 2 (f.seen.map znc) sa f.seen.length := hR.s;have nh : f.hours.length ≤ 9223372036854775807 := hR.nh;have ns : f.seen.length ≤ 9223372036854775807 := hR.ns;refine en Tryz.func138 rfl Tryz.ntmps138 (Inv.start hH) (g [[1],[1,0]] ?_);refine WL.so (SO.box rfl rfl) rfl (zw fun b1 hb1 => ?_);refine g [[3]] ?_;refine WC.seqJ (α := Unit) (fun _ => [(1, pt b1), (3, .bool (decide (1 ≤ f.low) && decide (f.low ≤ f.high) && decide (f.high ≤ 12) && inB f.quiet 1 4 && decide (f.hours.length ≤ 9) && decide (f.seen.length ≤ 8)))]) (fun _ => [(b1, .cells (List.toArray [it f.low, it f.high, it f.quiet, .slice ha f.hours.length hc, .slice sa f.seen.length sc]) 53 (0, 0))]) (fun _ => D) (fun _ => True) ?_ ?_
  · rintro _ -;refine g [[2],[8,1,3]] ?_;refine WC.loopF (fun k : Nat => [(1, pt b1), (3, .bool ((decide (1 ≤ f.low) && decide (f.low ≤ f.high) && decide (f.high ≤ 12) && inB f.quiet 1 4 && decide (f.hours.length ≤ 9) && decide (f.seen.length ≤ 8)) && (f.hours.take k).all zuw)), (41, .slice ha f.hours.length hc), (42, nt f.hours.length), (43, nt k)]) (fun k => k ≤ f.hours.length) (fun k => f.hours.length - k) 0 (Nat.zero_le _) ⟨rfl, xx (by simp), rfl, rfl, rfl, trivial⟩ ?_;intro k hk;refine g [[1],[5,1,3,41,42,43]] ?_;refine WC.cond rfl (fun c44 => ?_) (fun c44 => ?_)
    · try simp only [zq] at c44
      have hkl : k < f.hours.length := by omega
      refine g [[5],[1,1,3,41,42,43]] ?_;refine WL.yd (Yd.ix rfl rfl (hRh.addr k (by omega))) rfl (WL.yd (Yd.lV [_, _, _] rfl ((hRh.at k (by omega)).rdn 0 3 rfl)) rfl ?_);refine WL.so (SO.alloc ZvF.h rfl) rfl (zw fun b5 hb5 => ?_);refine g [[3],[3,5,1,3,41,42,43]] ?_;refine WL.part 48 rfl (fun g48 => ?_) (fun g48 => ?_)
      · refine g [[2]] ?_;refine WL.sog rfl (SO.callP CaF.h rfl (fun w hI => Xv (gt f.hours k).wind 0 12 _)) rfl (zs (g [[2]] ?_));refine WL.part 53 rfl (fun g53 => ?_) (fun g53 => ?_)
        · refine g [[2]] ?_;refine WL.sog rfl (SO.callP CaF.h rfl (fun w hI => zmT _ _ _ _)) rfl (zs (g [[5],[4,3,1,41,42,43]] ?_));exact WP.againF (k + 1) hkl (by omega) ⟨rfl, xx (by rw [zmB hkl]; exact bs4 (fun a b => by first | rfl | assumption | (exact bnc a (by assumption)) | (exact bnc (by assumption) a) | (exact bnc b (by assumption)) | (exact bnc (by assumption) b) | (exact bnc c (by assumption)) | (exact bnc (by assumption) c)) (fun a b => by first | rfl | assumption | (exact bnc a (by assumption)) | (exact bnc (by assumption) a) | (exact bnc b (by assumption)) | (exact bnc (by assumption) b) | (exact bnc c (by assumption)) | (exact bnc (by assumption) c)) (fun a => by first | rfl | assumption | (exact bnc a (by assumption)) | (exact bnc (by assumption) a) | (exact bnc b (by assumption)) | (exact bnc (by assumption) b) | (exact bnc c (by assumption)) | (exact bnc (by assumption) c))), rfl, rfl, rfl, trivial⟩ (fun _ h => List.mem_cons_of_mem _ h) (fun h => (List.nodup_cons.1 h).2)
        refine g [[8],[4,3,1,41,42,43]] ?_;exact WP.againF (k + 1) hkl (by omega) ⟨rfl, xx (by rw [zmB hkl]; exact bs4 (fun a b => by first | rfl | assumption | (exact bnc a (by assumption)) | (exact bnc (by assumption) a) | (exact bnc b (by assumption)) | (exact bnc (by assumption) b) | (exact bnc c (by assumption)) | (exact bnc (by assumption) c)) (fun a b => by first | rfl | assumption | (exact bnc a (by assumption)) | (exact bnc (by assumption) a) | (exact bnc b (by assumption)) | (exact bnc (by assumption) b) | (exact bnc c (by assumption)) | (exact bnc (by assumption) c)) (fun a => by first | rfl | assumption | (exact bnc a (by assumption)) | (exact bnc (by assumption) a) | (exact bnc b (by assumption)) | (exact bnc (by assumption) b) | (exact bnc c (by assumption)) | (exact bnc (by assumption) c))), rfl, rfl, rfl, trivial⟩ (fun _ h => List.mem_cons_of_mem _ h) (fun h => (List.nodup_cons.1 h).2)
      refine g [[13],[4,3,1,41,42,43]] ?_;exact WP.againF (k + 1) hkl (by omega) ⟨rfl, xx (by rw [zmB hkl]; exact bs4 (fun a b => by first | rfl | assumption | (exact bnc a (by assumption)) | (exact bnc (by assumption) a) | (exact bnc b (by assumption)) | (exact bnc (by assumption) b) | (exact bnc c (by assumption)) | (exact bnc (by assumption) c)) (fun a b => by first | rfl | assumption | (exact bnc a (by assumption)) | (exact bnc (by assumption) a) | (exact bnc b (by assumption)) | (exact bnc (by assumption) b) | (exact bnc c (by assumption)) | (exact bnc (by assumption) c)) (fun a => by first | rfl | assumption | (exact bnc a (by assumption)) | (exact bnc (by assumption) a) | (exact bnc b (by assumption)) | (exact bnc (by assumption) b) | (exact bnc c (by assumption)) | (exact bnc (by assumption) c))), rfl, rfl, rfl, trivial⟩ (fun _ h => List.mem_cons_of_mem _ h) (fun h => (List.nodup_cons.1 h).2)
    try simp only [zq] at c44
    obtain rfl : k = f.hours.length := by omega
    refine g [[7],[8,1,3]] ?_;refine WC.loopF (fun k : Nat => [(1, pt b1), (3, .bool (((decide (1 ≤ f.low) && decide (f.low ≤ f.high) && decide (f.high ≤ 12) && inB f.quiet 1 4 && decide (f.hours.length ≤ 9) && decide (f.seen.length ≤ 8)) && (f.hours.take f.hours.length).all zuw) && (f.seen.take k).all fun s => inB s.hour 0 ((f.hours.length : Int) - 1))), (60, .slice sa f.seen.length sc), (61, nt f.seen.length), (62, nt k)]) (fun k => k ≤ f.seen.length) (fun k => f.seen.length - k) 0 (Nat.zero_le _) ⟨rfl, xx (by simp), rfl, rfl, rfl, trivial⟩ ?_;intro k hk;refine g [[1],[5,1,3,60,61,62]] ?_;refine WC.cond rfl (fun c63 => ?_) (fun c63 => ?_)
    · try simp only [zq] at c63
      have hkl : k < f.seen.length := by omega
      refine g [[5],[1,1,3,60,61,62]] ?_;refine WL.yd (Yd.ix rfl rfl (hRs.addr k (by omega))) rfl (WL.yd (Yd.lV [_, _] rfl ((hRs.at k (by omega)).rdn 0 2 rfl)) rfl ?_);refine WL.so (SO.alloc ZvF.h rfl) rfl (zw fun b7 hb7 => ?_);refine g [[3],[3,7,1,3,60,61,62]] ?_;refine WL.part 67 rfl (fun g67 => ?_) (fun g67 => ?_)
      · refine g [[6]] ?_;refine WL.sog rfl (SO.callP CaF.h rfl (fun w hI => zmT _ _ _ _)) rfl (zs (g [[5],[4,3,1,60,61,62]] ?_));exact WP.againF (k + 1) hkl (by omega) ⟨rfl, xx (by rw [zmB hkl]; exact bs1 (fun a => by first | rfl | assumption | (exact bnc a (by assumption)) | (exact bnc (by assumption) a) | (exact bnc b (by assumption)) | (exact bnc (by assumption) b) | (exact bnc c (by assumption)) | (exact bnc (by assumption) c)) (fun a => by first | rfl | assumption | (exact bnc a (by assumption)) | (exact bnc (by assumption) a) | (exact bnc b (by assumption)) | (exact bnc (by assumption) b) | (exact bnc c (by assumption)) | (exact bnc (by assumption) c))), rfl, rfl, rfl, trivial⟩ (fun _ h => List.mem_cons_of_mem _ h) (fun h => (List.nodup_cons.1 h).2)
      refine g [[12],[4,3,1,60,61,62]] ?_;exact WP.againF (k + 1) hkl (by omega) ⟨rfl, xx (by rw [zmB hkl]; exact bs1 (fun a => by first | rfl | assumption | (exact bnc a (by assumption)) | (exact bnc (by assumption) a) | (exact bnc b (by assumption)) | (exact bnc (by assumption) b) | (exact bnc c (by assumption)) | (exact bnc (by assumption) c)) (fun a => by first | rfl | assumption | (exact bnc a (by assumption)) | (exact bnc (by assumption) a) | (exact bnc b (by assumption)) | (exact bnc (by assumption) b) | (exact bnc c (by assumption)) | (exact bnc (by assumption) c))), rfl, rfl, rfl, trivial⟩ (fun _ h => List.mem_cons_of_mem _ h) (fun h => (List.nodup_cons.1 h).2)
    try simp only [zq] at c63
    obtain rfl : k = f.seen.length := by omega
    refine g [[6],[6,3]] ?_;refine WP.ret1 rfl rfl rfl (RV.tmp rfl) (fun w hI => ⟨zb (ztB f), hI.keep⟩)
  skip;refine g [[5,2,1]] ?_;refine WL.part 11 rfl (fun g11 => ?_) (fun g11 => ?_)
  · try simp only [zq] at g11
    refine g [[7]] ?_;refine WL.part 18 rfl (fun g18 => ?_) (fun g18 => ?_)
    · try simp only [zq] at g18
      refine g [[5]] ?_;refine WL.part 23 rfl (fun g23 => ?_) (fun g23 => ?_)
      · try simp only [zq] at g23
        refine g [[2]] ?_;refine WL.sog rfl (SO.callP CaF.h rfl (fun w hI => zmT _ _ _ _)) rfl (zs (g [[2]] ?_));refine WL.part 28 rfl (fun g28 => ?_) (fun g28 => ?_)
        · refine g [[6]] ?_;refine WL.part 34 rfl (fun g34 => ?_) (fun g34 => ?_)
          · try simp only [zq] at g34
            refine g [[7]] ?_;exact WP.join () trivial (fun a w h => yi h ⟨rfl, xx (by first | (simp_all; done) | (rw [Bool.eq_iff_iff]; simp_all; done) | (rw [Bool.eq_iff_iff]; simp_all; omega)), trivial⟩ (fun _ h => h) (fun h => h))
          try simp only [zq] at g34
          refine g [[7]] ?_;exact WP.join () trivial (fun a w h => yi h ⟨rfl, xx (by first | (simp_all; done) | (rw [Bool.eq_iff_iff]; simp_all; done) | (rw [Bool.eq_iff_iff]; simp_all; omega)), trivial⟩ (fun _ h => h) (fun h => h))
        refine g [[13]] ?_;exact WP.join () trivial (fun a w h => yi h ⟨rfl, xx (by first | (simp_all; done) | (rw [Bool.eq_iff_iff]; simp_all; done) | (rw [Bool.eq_iff_iff]; simp_all; omega)), trivial⟩ (fun _ h => h) (fun h => h))
      try simp only [zq] at g23
      refine g [[18]] ?_;exact WP.join () trivial (fun a w h => yi h ⟨rfl, xx (by first | (simp_all; done) | (rw [Bool.eq_iff_iff]; simp_all; done) | (rw [Bool.eq_iff_iff]; simp_all; omega)), trivial⟩ (fun _ h => h) (fun h => h))
    try simp only [zq] at g18
    refine g [[23]] ?_;exact WP.join () trivial (fun a w h => yi h ⟨rfl, xx (by first | (simp_all; done) | (rw [Bool.eq_iff_iff]; simp_all; done) | (rw [Bool.eq_iff_iff]; simp_all; omega)), trivial⟩ (fun _ h => h) (fun h => h))
  try simp only [zq] at g11
  refine g [[30]] ?_;exact WP.join () trivial (fun a w h => yi h ⟨rfl, xx (by first | (simp_all; done) | (rw [Bool.eq_iff_iff]; simp_all; done) | (rw [Bool.eq_iff_iff]; simp_all; omega)), trivial⟩ (fun _ h => h) (fun h => h))
def zsh (b : xb) (m : Int) (s : zmz) : Bool := inB s.minute m b.last && spB s.cols 0 (b.wide - 1) && spB s.rows 0 (b.deep - 1)
def zpU (m : Int) (l : List zmz) (j : Nat) : Int := match j with | 0 => m | j + 1 => (gt l j).minute
theorem zmZ {b : xb} : ∀ (l : List zmz) (m : Int) (j : Nat), j < l.length → rowB b m (l.take (j + 1)) = (rowB b m (l.take j) && zsh b (zpU m l j) (gt l j))
  | s :: l, m, 0, _ => by simp [rowB, zsh, zpU, gt]
  | s :: l, m, j + 1, h => by
    have ih := zmZ (b := b) l s.minute j (by simpa using h);have e1 : gt (s :: l) (j + 1) = gt l j := by simp [gt, List.getD]
    have e2 : zpU m (s :: l) (j + 1) = zpU s.minute l j := by
      cases j with
      | zero => rfl
      | succ j => simp [zpU, gt, List.getD]
    rw [List.take_succ_cons, List.take_succ_cons, rowB, rowB, ih, e1, e2];simp only [Bool.and_assoc]
theorem zrP (b : xb) : ((inB b.wide 1 8 && inB b.deep 1 6 && inB b.speed 0 3 && inB b.last 0 12 && decide (b.seen.length ≤ 4)) && (b.seen.take b.seen.length).all (fun l => decide (l.length ≤ 5) && rowB b 0 l)) = zmD b := by
  simp only [zmD, List.take_length]
theorem zpB (b : xb) (m : zmn) (D : Imm) (w : World) (hR : zmv D b m) (hH : Holds D w) : z8 Tryz.prog 151 [zmP b m] w (.bool (zmD b)) := by
  unfold z8;obtain ⟨⟨ba, bn, bc⟩, ml⟩ := m;have hml : ml.length = b.seen.length := hR.len;have hRs0 : SlL D 1 (ml.map slC) ba bn := hR.sl;obtain rfl : bn = b.seen.length := by have := hRs0.len'; omega
  have hRr : ∀ i, i < b.seen.length → SlL D 5 ((gt b.seen i).map bsC) (gt ml i).a (gt ml i).n := hR.row;have hRn : ∀ i, i < b.seen.length → (gt ml i).n ≤ 9223372036854775807 := hR.nr;have nb : b.seen.length ≤ 9223372036854775807 := hR.n;refine en Tryz.func151 rfl Tryz.ntmps151 (Inv.start hH) (g [[1],[1,0]] ?_);refine WL.so (SO.box rfl rfl) rfl (zw fun b1 hb1 => ?_);refine g [[3]] ?_;refine WC.seqJ (α := Unit) (fun _ => [(1, pt b1), (3, .bool (inB b.wide 1 8 && inB b.deep 1 6 && inB b.speed 0 3 && inB b.last 0 12 && decide (b.seen.length ≤ 4)))]) (fun _ => [(b1, .cells (List.toArray [it b.wide, it b.deep, it b.speed, it b.last, .slice ba b.seen.length bc]) 56 (0, 0))]) (fun _ => D) (fun _ => True) ?_ ?_
  · rintro _ -;refine g [[2],[8,1,3]] ?_;refine WC.loopF (fun k : Nat => [(1, pt b1), (3, .bool ((inB b.wide 1 8 && inB b.deep 1 6 && inB b.speed 0 3 && inB b.last 0 12 && decide (b.seen.length ≤ 4)) && (b.seen.take k).all (fun l => decide (l.length ≤ 5) && rowB b 0 l))), (34, .slice ba b.seen.length bc), (35, nt b.seen.length), (36, nt k)]) (fun k => k ≤ b.seen.length) (fun k => b.seen.length - k) 0 (Nat.zero_le _) ⟨rfl, xx (by simp), rfl, rfl, rfl, trivial⟩ ?_;intro k hk;refine g [[1],[5,1,3,34,35,36]] ?_;refine WC.cond rfl (fun c37 => ?_) (fun c37 => ?_)
    · try simp only [zq] at c37
      have hkl : k < b.seen.length := by omega
      refine g [[5],[1,1,3,34,35,36]] ?_;refine WL.yd (Yd.ix rfl rfl (hRs0.addr k (by omega))) rfl (WL.yd (Yd.l1 rfl ((hRs0.at k (by omega)).rd 0 rfl)) rfl (g [[3]] ?_));have hrow := hRr k hkl;have hrn := hRn k hkl;generalize gt ml k = q at hrow hrn ⊢;obtain ⟨ra, rn, rc⟩ := q;obtain rfl : rn = (gt b.seen k).length := hrow.len';dsimp only at hrow hrn;refine WC.seqJ (α := Unit) (fun _ => [(1, pt b1), (3, .bool (((inB b.wide 1 8 && inB b.deep 1 6 && inB b.speed 0 3 && inB b.last 0 12 && decide (b.seen.length ≤ 4)) && (b.seen.take k).all (fun l => decide (l.length ≤ 5) && rowB b 0 l)) && decide ((gt b.seen k).length ≤ 5))), (5, .slice ra (gt b.seen k).length rc), (34, .slice ba b.seen.length bc), (35, nt b.seen.length), (36, nt k)]) (fun _ => [(b1, .cells (List.toArray [it b.wide, it b.deep, it b.speed, it b.last, .slice ba b.seen.length bc]) 56 (0, 0))]) (fun _ => D) (fun _ => True) ?_ ?_
      · rintro _ -;refine g [[1],[5,1,3,5,34,35,36],[7,6,1,3,5,34,35,36]] ?_;refine WC.loopF (fun j : Nat => [(1, pt b1), (3, .bool (((inB b.wide 1 8 && inB b.deep 1 6 && inB b.speed 0 3 && inB b.last 0 12 && decide (b.seen.length ≤ 4)) && (b.seen.take k).all (fun l => decide (l.length ≤ 5) && rowB b 0 l)) && decide ((gt b.seen k).length ≤ 5) && rowB b 0 ((gt b.seen k).take j))), (6, it (zpU 0 (gt b.seen k) j)), (34, .slice ba b.seen.length bc), (35, nt b.seen.length), (36, nt k), (46, .slice ra (gt b.seen k).length rc), (47, nt (gt b.seen k).length), (48, nt j)]) (fun j => j ≤ (gt b.seen k).length) (fun j => (gt b.seen k).length - j) 0 (Nat.zero_le _) ⟨rfl, xx (by simp [rowB]), rfl, rfl, rfl, rfl, rfl, rfl, rfl, trivial⟩ ?_;intro j hj;refine g [[1],[5,1,3,6,34,35,36,46,47,48]] ?_;refine WC.cond rfl (fun c49 => ?_) (fun c49 => ?_)
        · try simp only [zq] at c49
          have hjl : j < (gt b.seen k).length := by omega
          refine g [[5],[1,1,3,6,34,35,36,46,47,48]] ?_;refine WL.yd (Yd.ix rfl rfl (hrow.addr j (by omega))) rfl (WL.yd (Yd.lV [_, _, _, _, _] rfl ((hrow.at j (by omega)).rdn 0 5 rfl)) rfl ?_);refine WL.so (SO.alloc ZvF.h rfl) rfl (zw fun b8 hb8 => ?_);refine g [[4],[3,8,1,3,6,34,35,36,46,47,48]] ?_;refine WL.part 53 rfl (fun g53 => ?_) (fun g53 => ?_)
          · have hwd : 1 ≤ b.wide ∧ b.wide ≤ 8 ∧ 1 ≤ b.deep ∧ b.deep ≤ 6 := by simp only [Bool.and_eq_true, zmQ] at g53; omega
            refine g [[5]] ?_;refine WL.sog rfl (SO.callP CaF.h rfl (fun w hI => zmT _ _ _ _)) rfl (zs (g [[2]] ?_));refine WL.part 61 rfl (fun g61 => ?_) (fun g61 => ?_)
            · refine g [[5]] ?_;refine WL.sog rfl (SO.callP CaF.h rfl (fun w hI => Xv (gt (gt b.seen k) j).cols 0 (b.wide - 1) _)) rfl (zs (g [[2]] ?_));refine WL.part 69 rfl (fun g69 => ?_) (fun g69 => ?_)
              · refine g [[5]] ?_;refine WL.sog rfl (SO.callP CaF.h rfl (fun w hI => Xv (gt (gt b.seen k) j).rows 0 (b.deep - 1) _)) rfl (zs (g [[4],[7,3,8,1,6,34,35,36,46,47,48],[4,6,3,1,34,35,36,46,47,48]] ?_));exact WP.againF (j + 1) hjl (by omega) ⟨rfl, xx (by rw [zmZ _ _ _ hjl]; exact bs5 (fun a b c => by first | rfl | assumption | (exact bnc a (by assumption)) | (exact bnc (by assumption) a) | (exact bnc b (by assumption)) | (exact bnc (by assumption) b) | (exact bnc c (by assumption)) | (exact bnc (by assumption) c)) (fun a b c => by first | rfl | assumption | (exact bnc a (by assumption)) | (exact bnc (by assumption) a) | (exact bnc b (by assumption)) | (exact bnc (by assumption) b) | (exact bnc c (by assumption)) | (exact bnc (by assumption) c)) (fun a b => by first | rfl | assumption | (exact bnc a (by assumption)) | (exact bnc (by assumption) a) | (exact bnc b (by assumption)) | (exact bnc (by assumption) b) | (exact bnc c (by assumption)) | (exact bnc (by assumption) c)) (fun a => by first | rfl | assumption | (exact bnc a (by assumption)) | (exact bnc (by assumption) a) | (exact bnc b (by assumption)) | (exact bnc (by assumption) b) | (exact bnc c (by assumption)) | (exact bnc (by assumption) c))), rfl, rfl, rfl, rfl, rfl, rfl, rfl, trivial⟩ (fun _ h => List.mem_cons_of_mem _ h) (fun h => (List.nodup_cons.1 h).2)
              refine g [[10],[7,3,8,1,6,34,35,36,46,47,48],[4,6,3,1,34,35,36,46,47,48]] ?_;exact WP.againF (j + 1) hjl (by omega) ⟨rfl, xx (by rw [zmZ _ _ _ hjl]; exact bs5 (fun a b c => by first | rfl | assumption | (exact bnc a (by assumption)) | (exact bnc (by assumption) a) | (exact bnc b (by assumption)) | (exact bnc (by assumption) b) | (exact bnc c (by assumption)) | (exact bnc (by assumption) c)) (fun a b c => by first | rfl | assumption | (exact bnc a (by assumption)) | (exact bnc (by assumption) a) | (exact bnc b (by assumption)) | (exact bnc (by assumption) b) | (exact bnc c (by assumption)) | (exact bnc (by assumption) c)) (fun a b => by first | rfl | assumption | (exact bnc a (by assumption)) | (exact bnc (by assumption) a) | (exact bnc b (by assumption)) | (exact bnc (by assumption) b) | (exact bnc c (by assumption)) | (exact bnc (by assumption) c)) (fun a => by first | rfl | assumption | (exact bnc a (by assumption)) | (exact bnc (by assumption) a) | (exact bnc b (by assumption)) | (exact bnc (by assumption) b) | (exact bnc c (by assumption)) | (exact bnc (by assumption) c))), rfl, rfl, rfl, rfl, rfl, rfl, rfl, trivial⟩ (fun _ h => List.mem_cons_of_mem _ h) (fun h => (List.nodup_cons.1 h).2)
            refine g [[18],[7,3,8,1,6,34,35,36,46,47,48],[4,6,3,1,34,35,36,46,47,48]] ?_;exact WP.againF (j + 1) hjl (by omega) ⟨rfl, xx (by rw [zmZ _ _ _ hjl]; exact bs5 (fun a b c => by first | rfl | assumption | (exact bnc a (by assumption)) | (exact bnc (by assumption) a) | (exact bnc b (by assumption)) | (exact bnc (by assumption) b) | (exact bnc c (by assumption)) | (exact bnc (by assumption) c)) (fun a b c => by first | rfl | assumption | (exact bnc a (by assumption)) | (exact bnc (by assumption) a) | (exact bnc b (by assumption)) | (exact bnc (by assumption) b) | (exact bnc c (by assumption)) | (exact bnc (by assumption) c)) (fun a b => by first | rfl | assumption | (exact bnc a (by assumption)) | (exact bnc (by assumption) a) | (exact bnc b (by assumption)) | (exact bnc (by assumption) b) | (exact bnc c (by assumption)) | (exact bnc (by assumption) c)) (fun a => by first | rfl | assumption | (exact bnc a (by assumption)) | (exact bnc (by assumption) a) | (exact bnc b (by assumption)) | (exact bnc (by assumption) b) | (exact bnc c (by assumption)) | (exact bnc (by assumption) c))), rfl, rfl, rfl, rfl, rfl, rfl, rfl, trivial⟩ (fun _ h => List.mem_cons_of_mem _ h) (fun h => (List.nodup_cons.1 h).2)
          refine g [[26],[7,3,8,1,6,34,35,36,46,47,48],[4,6,3,1,34,35,36,46,47,48]] ?_;exact WP.againF (j + 1) hjl (by omega) ⟨rfl, xx (by rw [zmZ _ _ _ hjl]; exact bs5 (fun a b c => by first | rfl | assumption | (exact bnc a (by assumption)) | (exact bnc (by assumption) a) | (exact bnc b (by assumption)) | (exact bnc (by assumption) b) | (exact bnc c (by assumption)) | (exact bnc (by assumption) c)) (fun a b c => by first | rfl | assumption | (exact bnc a (by assumption)) | (exact bnc (by assumption) a) | (exact bnc b (by assumption)) | (exact bnc (by assumption) b) | (exact bnc c (by assumption)) | (exact bnc (by assumption) c)) (fun a b => by first | rfl | assumption | (exact bnc a (by assumption)) | (exact bnc (by assumption) a) | (exact bnc b (by assumption)) | (exact bnc (by assumption) b) | (exact bnc c (by assumption)) | (exact bnc (by assumption) c)) (fun a => by first | rfl | assumption | (exact bnc a (by assumption)) | (exact bnc (by assumption) a) | (exact bnc b (by assumption)) | (exact bnc (by assumption) b) | (exact bnc c (by assumption)) | (exact bnc (by assumption) c))), rfl, rfl, rfl, rfl, rfl, rfl, rfl, trivial⟩ (fun _ h => List.mem_cons_of_mem _ h) (fun h => (List.nodup_cons.1 h).2)
        try simp only [zq] at c49
        obtain rfl : j = (gt b.seen k).length := by omega
        refine g [[6],[4,1,3,34,35,36]] ?_;exact WP.againF (k + 1) hkl (by omega) ⟨rfl, xx (by rw [zmB hkl, List.take_length]; simp only [Bool.and_assoc]), rfl, rfl, rfl, trivial⟩ (fun _ h => h) (fun h => h)
      skip;refine g [[3,5,1,3,34,35,36]] ?_;refine WL.part 41 rfl (fun g41 => ?_) (fun g41 => ?_)
      · refine g [[6]] ?_;exact WP.join () trivial (fun a w h => yi h ⟨rfl, xx (by first | exact bjF g41 | exact bjF (by first | rfl | assumption | (exact bnc a (by assumption)) | (exact bnc (by assumption) a) | (exact bnc b (by assumption)) | (exact bnc (by assumption) b) | (exact bnc c (by assumption)) | (exact bnc (by assumption) c)) | (simp_all; done) | (rw [Bool.eq_iff_iff]; simp_all; done) | (rw [Bool.eq_iff_iff]; simp_all; omega)), rfl, rfl, rfl, rfl, trivial⟩ (fun _ h => h) (fun h => h))
      refine g [[6]] ?_;exact WP.join () trivial (fun a w h => yi h ⟨rfl, xx (by first | exact bjF g41 | exact bjF (by first | rfl | assumption | (exact bnc a (by assumption)) | (exact bnc (by assumption) a) | (exact bnc b (by assumption)) | (exact bnc (by assumption) b) | (exact bnc c (by assumption)) | (exact bnc (by assumption) c)) | (simp_all; done) | (rw [Bool.eq_iff_iff]; simp_all; done) | (rw [Bool.eq_iff_iff]; simp_all; omega)), rfl, rfl, rfl, rfl, trivial⟩ (fun _ h => h) (fun h => h))
    try simp only [zq] at c37
    obtain rfl : k = b.seen.length := by omega
    refine g [[6],[6,3]] ?_;refine WP.ret1 rfl rfl rfl (RV.tmp rfl) (fun w hI => ⟨zb (zrP b), hI.keep⟩)
  skip;refine g [[3,2,1]] ?_;refine WL.cl rfl (fun w hI => zmT _ _ _ _) (g [[1]] ?_);refine WL.part 12 rfl (fun g12 => ?_) (fun g12 => ?_)
  · refine g [[2]] ?_;refine WL.sog rfl (SO.callP CaF.h rfl (fun w hI => zmT _ _ _ _)) rfl (zs (g [[2]] ?_));refine WL.part 17 rfl (fun g17 => ?_) (fun g17 => ?_)
    · refine g [[2]] ?_;refine WL.sog rfl (SO.callP CaF.h rfl (fun w hI => zmT _ _ _ _)) rfl (zs (g [[2]] ?_));refine WL.part 22 rfl (fun g22 => ?_) (fun g22 => ?_)
      · refine g [[2]] ?_;refine WL.sog rfl (SO.callP CaF.h rfl (fun w hI => zmT _ _ _ _)) rfl (zs (g [[2]] ?_));refine WL.part 27 rfl (fun g27 => ?_) (fun g27 => ?_)
        · refine g [[7]] ?_;exact WP.join () trivial (fun a w h => yi h ⟨rfl, xx (by first | (simp_all; done) | (rw [Bool.eq_iff_iff]; simp_all; done) | (rw [Bool.eq_iff_iff]; simp_all; omega)), trivial⟩ (fun _ h => h) (fun h => h))
        refine g [[7]] ?_;exact WP.join () trivial (fun a w h => yi h ⟨rfl, xx (by first | (simp_all; done) | (rw [Bool.eq_iff_iff]; simp_all; done) | (rw [Bool.eq_iff_iff]; simp_all; omega)), trivial⟩ (fun _ h => h) (fun h => h))
      refine g [[12]] ?_;exact WP.join () trivial (fun a w h => yi h ⟨rfl, xx (by first | (simp_all; done) | (rw [Bool.eq_iff_iff]; simp_all; done) | (rw [Bool.eq_iff_iff]; simp_all; omega)), trivial⟩ (fun _ h => h) (fun h => h))
    refine g [[17]] ?_;exact WP.join () trivial (fun a w h => yi h ⟨rfl, xx (by first | (simp_all; done) | (rw [Bool.eq_iff_iff]; simp_all; done) | (rw [Bool.eq_iff_iff]; simp_all; omega)), trivial⟩ (fun _ h => h) (fun h => h))
  refine g [[22]] ?_;exact WP.join () trivial (fun a w h => yi h ⟨rfl, xx (by first | (simp_all; done) | (rw [Bool.eq_iff_iff]; simp_all; done) | (rw [Bool.eq_iff_iff]; simp_all; omega)), trivial⟩ (fun _ h => h) (fun h => h))
theorem i100 {n : Int} (h : zmw n) : i64B n := ⟨by have := h.1; omega, by have := h.2; omega⟩
theorem fm_len {α : Type} {f : α → Bs} {c : Nat} : ∀ {l : List α}, (∀ x ∈ l, (f x).length ≤ c) → (l.flatMap f).length ≤ l.length * c
  | [], _ => by simp
  | x :: l, h => by
    have h1 := h x (by simp); have h2 := fm_len (l := l) (f := f) (c := c) fun y hy => h y (by simp [hy]);simp only [List.flatMap_cons, List.length_append, List.length_cons, Nat.succ_mul];omega
theorem zrN {α : Type} {f : α → Bs} {c m : Nat} {l : List α} (h : ∀ x ∈ l, (f x).length ≤ c) (hm : l.length ≤ m) (k : Nat) : ((l.take k).flatMap f).length ≤ m * c := by
  have h1 := fm_len (l := l.take k) (f := f) (c := c) fun x hx => h x (List.mem_of_mem_take hx);have h2 : (l.take k).length * c ≤ m * c := Nat.mul_le_mul_right c (by rw [List.length_take]; omega);omega
theorem zoj {α : Type} [Inhabited α] {f : α → Bs} {l : List α} {k : Nat} (h : k < l.length) : (l.take (k + 1)).flatMap f = (l.take k).flatMap f ++ f (gt l k) := by
  have e : gt l k = l[k] := by simp [gt, List.getD, h]
  rw [List.take_succ_eq_append_getElem h, List.flatMap_append, e];simp
theorem znL {x : Sp} (h : zn9 x) : (colT x).length ≤ 6 := by
  have := zni h.1; have := zni h.2;simp [colT]; omega
theorem zsM {h : Hut} (h1 : zmw h.floor) (h2 : zmw h.brake) (h3 : zmw h.row) : (hutT h ++ [10]).length ≤ 13 := by
  have := zni h1; have := zni h2; have := (KT h3).2;simp [hutT, hutW]; omega
theorem zpL {x : Sp} (h : zn9 x) : (vX x).length ≤ 6 := by
  have := (KT h.1).2; have := (KT h.2).2;unfold vX; split <;> simp <;> omega
end Go.Proofs.YtaiegbjgfdhgaaaGreatDoor
namespace Go.Bk
open Go.W Go.Bk Go.Proofs.YtaiegbjgfdhgaaaGreatDoor
section
variable {s : Surf} (h : zmo s)
include s h
theorem zmo.w100 : ∀ x ∈ s.water, zn9 x := fun x hx => zoY (h.water x hx).1 (by omega)
theorem zmo.v100 : ∀ x ∈ s.waves, zn9 x := fun x hx => zoY (h.waves x hx).1 (by omega)
theorem zmo.h100 : ∀ x ∈ s.huts, zmw x.floor ∧ zmw x.brake ∧ zmw x.row := fun x hx => by
  have h1 := h.huts x hx; have := h.rows;exact ⟨⟨by omega, by omega⟩, ⟨by omega, by omega⟩, ⟨by omega, by omega⟩⟩
end
end Go.Bk
namespace Go.Proofs.YtaiegbjgfdhgaaaGreatDoor
open Go.W Go.Bk
def sT1 (s : Surf) (k : Nat) : Bs := (zsi s ++ 10 :: zo9) ++ (s.water.take k).flatMap colT
def sT2 (s : Surf) (k : Nat) : Bs := (sT1 s s.water.length ++ 10 :: zoh) ++ (s.waves.take k).flatMap colT
def sT3 (s : Surf) (k : Nat) : Bs := (sT2 s s.waves.length ++ [10]) ++ (s.huts.take k).flatMap fun h => hutT h ++ [10]
section
variable {s : Surf} (h : zmo s) (k : Nat)
include s h k
theorem zse : (sT1 s k).length ≤ 100 := by
  have h1 := zrN (f := colT) (c := 6) (fun x hx => znL (h.w100 x hx)) h.nwater k;have := (KT (n := s.rows) ⟨by have := h.rows; omega, by have := h.rows; omega⟩).2;have := (KT (n := s.step) ⟨by have := h.step; omega, by have := h.step; omega⟩).2;simp only [sT1, zsi, zpf, zo9, List.length_append, List.length_cons, List.length_nil]; omega
theorem zsf : (sT2 s k).length ≤ 200 := by
  have h1 := zrN (f := colT) (c := 6) (fun x hx => znL (h.v100 x hx)) (m := 8) (by have := h.same; have := h.nwater; omega) k;have := zse h s.water.length;simp only [sT2, zoh, List.length_append, List.length_cons, List.length_nil]; omega
theorem zz6 : (sT3 s k).length ≤ 300 := by
  have h1 := zrN (f := fun h => hutT h ++ [10]) (c := 13) (fun x hx => zsM (h.h100 x hx).1 (h.h100 x hx).2.1 (h.h100 x hx).2.2) h.nhuts k;have := zsf h s.waves.length;simp only [sT3, List.length_append, List.length_cons, List.length_nil]; omega
end
theorem zx1 (s : Surf) : zmA [.s zpf, .i s.rows, .s [120], .i s.step, .s (10 :: zo9)] = sT1 s 0 := by simp [zmA, zne, sT1, zsi]
theorem zx0 {s : Surf} {k : Nat} (h : k < s.water.length) : sT1 s k ++ colT (gt s.water k) = sT1 s (k + 1) := by unfold sT1; rw [zoj h]; simp
theorem zx3 (s : Surf) : sT1 s s.water.length ++ 10 :: zoh = sT2 s 0 := by simp [sT2]
theorem zx2 {s : Surf} {k : Nat} (h : k < s.waves.length) : sT2 s k ++ colT (gt s.waves k) = sT2 s (k + 1) := by unfold sT2; rw [zoj h]; simp
theorem zx5 (s : Surf) : sT2 s s.waves.length ++ [10] = sT3 s 0 := by simp [sT3]
theorem zx4 {s : Surf} {k : Nat} (h : k < s.huts.length) : sT3 s k ++ (hutT (gt s.huts k) ++ [10]) = sT3 s (k + 1) := by unfold sT3; rw [zoj h]; simp
theorem zz5 (s : Surf) : sT3 s s.huts.length = zmO s := by
  have e : ∀ l : List Hut, (l.flatMap fun h => hutT h ++ [10]) = unl (l.map hutT) := by
    intro l; simp [unl, List.flatMap_map]
  simp only [sT3, sT2, sT1, List.take_length, zmO, zpM, zpp, znl, e];simp
theorem zsv (x : Sp) : zmA [.s [32], .c x.lo, .s [45], .c x.hi] = colT x := by simp [zmA, zne, colT]
theorem zwx (h : Hut) : zmA [.s hutW, .c h.floor, .s [32], .c h.brake, .s [32], .i h.row, .s [10]] = hutT h ++ [10] := by simp [zmA, zne, hutT]
theorem okn : ∀ p ∈ ([] : List Part), zna p := fun _ h => nomatch h
theorem oks {p : Part} {l : List Part} (h : zna p) (hl : ∀ q ∈ l, zna q) : ∀ q ∈ p :: l, zna q := fun q hq => (List.mem_cons.1 hq).elim (fun e => e ▸ h) (hl q)
theorem zpe {a b : Bs} (h : a = b) : some (st a) = some (st b) := by rw [h]
theorem zrl (s : Surf) (m : zn4) (hok : zmo s) (D : Imm) {kM : Bool} (hL : LibD kM D) (hR : zn1 D s m) (w : World) (hH : Holds D w) : z8 Tryz.prog 129 [zno s m] w (st (zmO s)) := by
  unfold z8;obtain ⟨⟨wa, wn, wc⟩, ⟨va, vn, vc⟩, ⟨ha, hn, hc⟩⟩ := m;obtain rfl : wn = s.water.length := hR.w.len';obtain rfl : vn = s.waves.length := hR.v.len';obtain rfl : hn = s.huts.length := hR.h.len';have hRw : SlL D 2 (s.water.map spC) wa s.water.length := hR.w;have hRv : SlL D 2 (s.waves.map spC) va s.waves.length := hR.v;have hRh : SlL D 3 (s.huts.map hutC) ha s.huts.length := hR.h;have nw : s.water.length ≤ 9223372036854775807 := hR.nw;have nv : s.waves.length ≤ 9223372036854775807 := hR.nv;have nh : s.huts.length ≤ 9223372036854775807 := hR.nh;have i64r : i64B s.rows := by have := hok.rows; exact ⟨by omega, by omega⟩
  have i64s : i64B s.step := by have := hok.step; exact ⟨by omega, by omega⟩
  refine en Tryz.func129 rfl Tryz.ntmps129 (Inv.start hH) (g [[1],[1,0]] ?_);refine WL.so (SO.box rfl rfl) rfl (zw fun b1 hb1 => ?_);refine g [[4],[10,2,1]] ?_;refine WL.so (SO.buildSlice1 UnF.h SzF.h ZvF.h rfl rfl rfl (vs := [_, _, _, _, _]) rfl rfl rfl) rfl ?_;rintro _ _ _ ⟨b19, hb19, rfl, rfl, rfl⟩;refine WL.cl rfl (fun w hI => show z8 Tryz.prog 130 _ w (st (sT1 s 0)) from zx1 s ▸ Kt [.s zpf, .i s.rows, .s [120], .i s.step, .s (10 :: zo9)] _ _ _ _ (hL.ext ((DExt.refl _ D).add (hI.apart _ _ (List.mem_of_getElem? (i := 0) rfl)) hb19)) (SlL.ofBlock (l := [.s zpf, .i s.rows, .s [120], .i s.step, .s (10 :: zo9)]) (f := zoe) (m := 1) (rest := []) (fun _ => rfl) (Imm.add_self _ _ _)) (oks (zqb rfl) (oks i64r (oks (zqb rfl) (oks i64s (oks (zqb rfl) (okn)))))) (by simp) _ (hI.freezeK 0 rfl).2.imm) (g [[5],[8,3,2,1]] ?_);refine WC.drop 1 (WC.loopT [] (fun k : Nat => [(1, pt b1), (3, st (sT1 s k)), (22, .slice wa s.water.length wc), (23, nt s.water.length), (24, nt k)]) (fun _ => [(b1, .cells (List.toArray [it s.rows, it s.step, .slice wa s.water.length wc, .slice va s.waves.length vc, .slice ha s.huts.length hc]) 49 (0, 0))]) (fun k => k ≤ s.water.length) (fun k => s.water.length - k) 0 (Nat.zero_le _) rfl ⟨rfl, rfl, rfl, rfl, rfl, trivial⟩ ?_);intro k hk;have hl1 := zse hok k;refine g [[1],[5,1,3,22,23,24]] ?_;refine WC.cond rfl (fun c25 => ?_) (fun c25 => ?_)
  · try simp only [zq] at c25
    have hkl : k < s.water.length := by omega
    have hx := hok.w100 _ (Ky hkl);have hl2 := znL hx;refine g [[5],[1,1,3,22,23,24]] ?_;refine WL.yd (Yd.ix rfl rfl (hRw.addr k (by omega))) rfl (WL.yd (Yd.lV [_, _] rfl ((hRw.at k (by omega)).rdn 0 2 rfl)) rfl ?_);refine WL.so (SO.alloc ZvF.h rfl) rfl (zw fun b5 hb5 => ?_);refine g [[3],[10,5,1,3,22,23,24]] ?_;refine WL.so (SO.buildSlice1 UnF.h SzF.h ZvF.h rfl rfl rfl (vs := [_, _, _, _]) rfl rfl rfl) rfl ?_;rintro _ _ _ ⟨b37, hb37, rfl, rfl, rfl⟩;refine WL.cl rfl (fun w hI => show z8 Tryz.prog 130 _ w (st (colT (gt s.water k))) from zsv (gt s.water k) ▸ Kt [.s [32], .c (gt s.water k).lo, .s [45], .c (gt s.water k).hi] _ _ _ _ (hL.ext ((DExt.refl _ D).add (hI.apart _ _ (List.mem_of_getElem? (i := 0) rfl)) hb37)) (SlL.ofBlock (l := [.s [32], .c (gt s.water k).lo, .s [45], .c (gt s.water k).hi]) (f := zoe) (m := 1) (rest := []) (fun _ => rfl) (Imm.add_self _ _ _)) (oks (zqb rfl) (oks (i100 hx.1) (oks (zqb rfl) (oks (i100 hx.2) (okn))))) (by simp) _ (hI.freezeK 0 rfl).2.imm) ?_;refine WL.yd (Yd.addS rfl rfl (by first | omega | ((try simp only [List.length_append, List.length_cons, List.length_nil]); omega))) rfl (g [[4],[4,3,1,22,23,24]] ?_);exact WP.againT (k + 1) hkl (by omega) [_, _] _ rfl rfl ⟨rfl, zpe (zx0 hkl), rfl, rfl, rfl, trivial⟩
  try simp only [zq] at c25
  obtain rfl : k = s.water.length := by omega
  refine g [[6],[2,1,3]] ?_;have hl1 := zse hok s.water.length;have hl2 : (10 :: zoh).length = 6 := rfl;refine WL.yd (Yd.addS rfl rfl (by first | omega | ((try simp only [List.length_append, List.length_cons, List.length_nil]); omega))) rfl (g [[5],[8,3,1]] ?_);refine WC.loopT [] (fun k : Nat => [(1, pt b1), (3, st (sT2 s k)), (44, .slice va s.waves.length vc), (45, nt s.waves.length), (46, nt k)]) (fun _ => [(b1, .cells (List.toArray [it s.rows, it s.step, .slice wa s.water.length wc, .slice va s.waves.length vc, .slice ha s.huts.length hc]) 49 (0, 0))]) (fun k => k ≤ s.waves.length) (fun k => s.waves.length - k) 0 (Nat.zero_le _) rfl ⟨rfl, zpe (zx3 s), rfl, rfl, rfl, trivial⟩ ?_;intro k hk;have hl1 := zsf hok k;refine g [[1],[5,1,3,44,45,46]] ?_;refine WC.cond rfl (fun c47 => ?_) (fun c47 => ?_)
  · try simp only [zq] at c47
    have hkl : k < s.waves.length := by omega
    have hx := hok.v100 _ (Ky hkl);have hl2 := znL hx;refine g [[5],[1,1,3,44,45,46]] ?_;refine WL.yd (Yd.ix rfl rfl (hRv.addr k (by omega))) rfl (WL.yd (Yd.lV [_, _] rfl ((hRv.at k (by omega)).rdn 0 2 rfl)) rfl ?_);refine WL.so (SO.alloc ZvF.h rfl) rfl (zw fun b7 hb7 => ?_);refine g [[3],[10,7,1,3,44,45,46]] ?_;refine WL.so (SO.buildSlice1 UnF.h SzF.h ZvF.h rfl rfl rfl (vs := [_, _, _, _]) rfl rfl rfl) rfl ?_;rintro _ _ _ ⟨b59, hb59, rfl, rfl, rfl⟩;refine WL.cl rfl (fun w hI => show z8 Tryz.prog 130 _ w (st (colT (gt s.waves k))) from zsv (gt s.waves k) ▸ Kt [.s [32], .c (gt s.waves k).lo, .s [45], .c (gt s.waves k).hi] _ _ _ _ (hL.ext ((DExt.refl _ D).add (hI.apart _ _ (List.mem_of_getElem? (i := 0) rfl)) hb59)) (SlL.ofBlock (l := [.s [32], .c (gt s.waves k).lo, .s [45], .c (gt s.waves k).hi]) (f := zoe) (m := 1) (rest := []) (fun _ => rfl) (Imm.add_self _ _ _)) (oks (zqb rfl) (oks (i100 hx.1) (oks (zqb rfl) (oks (i100 hx.2) (okn))))) (by simp) _ (hI.freezeK 0 rfl).2.imm) ?_;refine WL.yd (Yd.addS rfl rfl (by first | omega | ((try simp only [List.length_append, List.length_cons, List.length_nil]); omega))) rfl (g [[4],[4,3,1,44,45,46]] ?_);exact WP.againT (k + 1) hkl (by omega) [_, _] _ rfl rfl ⟨rfl, zpe (zx2 hkl), rfl, rfl, rfl, trivial⟩
  try simp only [zq] at c47
  obtain rfl : k = s.waves.length := by omega
  refine g [[6],[2,1,3]] ?_;have hl1 := zsf hok s.waves.length;refine WL.yd (Yd.addS rfl rfl (by first | omega | ((try simp only [List.length_append, List.length_cons, List.length_nil]); omega))) rfl (g [[5],[8,3,1]] ?_);refine WC.loopT [] (fun k : Nat => [(1, pt b1), (3, st (sT3 s k)), (66, .slice ha s.huts.length hc), (67, nt s.huts.length), (68, nt k)]) (fun _ => [(b1, .cells (List.toArray [it s.rows, it s.step, .slice wa s.water.length wc, .slice va s.waves.length vc, .slice ha s.huts.length hc]) 49 (0, 0))]) (fun k => k ≤ s.huts.length) (fun k => s.huts.length - k) 0 (Nat.zero_le _) rfl ⟨rfl, zpe (zx5 s), rfl, rfl, rfl, trivial⟩ ?_;intro k hk;have hl1 := zz6 hok k;refine g [[1],[5,1,3,66,67,68]] ?_;refine WC.cond rfl (fun c69 => ?_) (fun c69 => ?_)
  · try simp only [zq] at c69
    have hkl : k < s.huts.length := by omega
    have hx := hok.h100 _ (Ky hkl);have hl2 := zsM hx.1 hx.2.1 hx.2.2;refine g [[5],[1,1,3,66,67,68]] ?_;refine WL.yd (Yd.ix rfl rfl (hRh.addr k (by omega))) rfl (WL.yd (Yd.lV [_, _, _] rfl ((hRh.at k (by omega)).rdn 0 3 rfl)) rfl ?_);refine WL.so (SO.alloc ZvF.h rfl) rfl (zw fun b9 hb9 => ?_);refine g [[3],[15,9,1,3,66,67,68]] ?_;refine WL.so (SO.buildSlice1 UnF.h SzF.h ZvF.h rfl rfl rfl (vs := [_, _, _, _, _, _, _]) rfl rfl rfl) rfl ?_;rintro _ _ _ ⟨b86, hb86, rfl, rfl, rfl⟩;refine WL.cl rfl (fun w hI => show z8 Tryz.prog 130 _ w (st (hutT (gt s.huts k) ++ [10])) from zwx (gt s.huts k) ▸ Kt [.s hutW, .c (gt s.huts k).floor, .s [32], .c (gt s.huts k).brake, .s [32], .i (gt s.huts k).row, .s [10]] _ _ _ _ (hL.ext ((DExt.refl _ D).add (hI.apart _ _ (List.mem_of_getElem? (i := 0) rfl)) hb86)) (SlL.ofBlock (l := [.s hutW, .c (gt s.huts k).floor, .s [32], .c (gt s.huts k).brake, .s [32], .i (gt s.huts k).row, .s [10]]) (f := zoe) (m := 1) (rest := []) (fun _ => rfl) (Imm.add_self _ _ _)) (oks (zqb rfl) (oks (i100 hx.1) (oks (zqb rfl) (oks (i100 hx.2.1) (oks (zqb rfl) (oks (i100 hx.2.2) (oks (zqb rfl) (okn)))))))) (by simp) _ (hI.freezeK 0 rfl).2.imm) ?_;refine WL.yd (Yd.addS rfl rfl (by first | omega | ((try simp only [List.length_append, List.length_cons, List.length_nil]); omega))) rfl (g [[4],[4,3,1,66,67,68]] ?_);exact WP.againT (k + 1) hkl (by omega) [_, _] _ rfl rfl ⟨rfl, zpe (zx4 hkl), rfl, rfl, rfl, trivial⟩
  try simp only [zq] at c69
  obtain rfl : k = s.huts.length := by omega
  refine g [[6],[6,3]] ?_;refine WP.ret1 rfl rfl rfl (RV.tmp rfl) (fun w hI => ⟨by rw [zz5], hI.keep⟩)
def fT1 (f : Flag) (k : Nat) : Bs := (zrL f ++ 10 :: zo1) ++ (f.hours.take k).flatMap fun h => 32 :: zok h
def fT2 (f : Flag) (k : Nat) : Bs := (fT1 f f.hours.length ++ 10 :: zpW) ++ (f.seen.take k).flatMap fun s => 32 :: znV s
theorem zrg (t : Int) : (markT t).length ≤ 1 := by
    unfold markT; split; · simp
    split <;> simp
theorem zrb {h : zoq} (hx : zn9 h.wind) : (32 :: zok h).length ≤ 8 := by
  have := zpL hx; have := zrg h.thunder;simp [zok]; omega
theorem zrp {s : zoD} (hx : zmw s.hour) : (32 :: znV s).length ≤ 4 := by
  have := (KT hx).2;simp [znV]; omega
end Go.Proofs.YtaiegbjgfdhgaaaGreatDoor
namespace Go.Bk
open Go.W Go.Bk Go.Proofs.YtaiegbjgfdhgaaaGreatDoor
section
variable {f : Flag} (h : zmp f)
include f h
theorem zmp.h100 : ∀ x ∈ f.hours, zn9 x.wind := fun x hx => zoY (h.hours x hx).1 (by omega)
theorem zmp.s100 : ∀ x ∈ f.seen, zmw x.hour := fun x hx => by
  have := h.seen x hx; have := h.nhours;exact ⟨by omega, by omega⟩
theorem zmp.n100 : zmw f.low ∧ zmw f.high ∧ zmw f.quiet := by
  have := h.low; have := h.quiet;exact ⟨⟨by omega, by omega⟩, ⟨by omega, by omega⟩, ⟨by omega, by omega⟩⟩
end
end Go.Bk
namespace Go.Proofs.YtaiegbjgfdhgaaaGreatDoor
open Go.W Go.Bk
theorem zrK {f : Flag} (h : zmp f) (k : Nat) : (fT1 f k).length ≤ 100 := by
  have h1 := zrN (f := fun h => 32 :: zok h) (c := 8) (fun x hx => zrb (h.h100 x hx)) h.nhours k;have := (KT h.n100.1).2; have := (KT h.n100.2.1).2; have := (KT h.n100.2.2).2;simp only [fT1, zrL, zoc, zo1, List.length_append, List.length_cons, List.length_nil]; omega
theorem zuh {f : Flag} (h : zmp f) (k : Nat) : (fT2 f k).length ≤ 200 := by
  have h1 := zrN (f := fun s => 32 :: znV s) (c := 4) (fun x hx => zrp (h.s100 x hx)) h.nseen k;have := zrK h f.hours.length;simp only [fT2, zpW, List.length_append, List.length_cons, List.length_nil]; omega
theorem zwg (f : Flag) : zmA [.s zoc, .i f.low, .s [45], .i f.high, .s [47], .i f.quiet, .s (10 :: zo1)] = fT1 f 0 := by simp [zmA, zne, fT1, zrL]
theorem zwf {f : Flag} {k : Nat} (h : k < f.hours.length) : fT1 f k ++ (32 :: zok (gt f.hours k)) = fT1 f (k + 1) := by unfold fT1; rw [zoj h]; simp
theorem zwh (f : Flag) : fT1 f f.hours.length ++ 10 :: zpW = fT2 f 0 := by simp [fT2]
theorem zsB {f : Flag} {k : Nat} (h : k < f.seen.length) : fT2 f k ++ (32 :: znV (gt f.seen k)) = fT2 f (k + 1) := by unfold fT2; rw [zoj h]; simp
theorem zy8 (f : Flag) : fT2 f f.seen.length ++ [10] = zmN f := by
  simp [fT2, fT1, List.take_length, zmN, zpT, unl, behind]
theorem zuy (h : zoq) : zmA [.s [32], .p h.wind, .s (markT h.thunder)] = 32 :: zok h := by simp [zmA, zne, zok]
theorem ztP {s : zoD} (h : s.up = true) : zmA [.s [32], .i s.hour, .s [43]] = 32 :: znV s := by simp [zmA, zne, znV, h]
theorem ztO {s : zoD} (h : s.up = false) : zmA [.s [32], .i s.hour, .s [45]] = 32 :: znV s := by simp [zmA, zne, znV, h]
theorem zyO {t : Int} (h : 0 ≤ t ∧ t ≤ 2) : ([st [], st [63], st [33]] : List Value)[0 + t.toNat * 1]? = some (st (markT t)) := by
  obtain ⟨h1, h2⟩ := h;have : t = 0 ∨ t = 1 ∨ t = 2 := by omega
  rcases this with rfl | rfl | rfl <;> rfl
def bT1 (b : xb) (k : Nat) : Bs := (zpr b ++ [10]) ++ (b.seen.take k).flatMap fun l => behind zoi zn5 l ++ [10]
def bT2 (b : xb) (k j : Nat) : Bs := (bT1 b k ++ zoi) ++ ((gt b.seen k).take j).flatMap fun s => 32 :: zn5 s
theorem zoI {s : zmz} (h : zmw s.minute ∧ zn9 s.cols ∧ zn9 s.rows) : (32 :: zn5 s).length ≤ 17 := by
  have := (KT h.1).2; have := zpL h.2.1; have := zpL h.2.2;simp [zn5]; omega
end Go.Proofs.YtaiegbjgfdhgaaaGreatDoor
namespace Go.Bk
open Go.W Go.Bk Go.Proofs.YtaiegbjgfdhgaaaGreatDoor
theorem xv.s100 {b : xb} (h : xv b) : ∀ l ∈ b.seen, ∀ s ∈ l, zmw s.minute ∧ zn9 s.cols ∧ zn9 s.rows := fun _ hl _ hs => zpg h (h.sn hl hs)
theorem xv.n100 {b : xb} (h : xv b) : zmw b.wide ∧ zmw b.deep ∧ zmw b.speed ∧ zmw b.last := by
  have := h.wide; have := h.deep; have := h.speed; have := h.last;exact ⟨⟨by omega, by omega⟩, ⟨by omega, by omega⟩, ⟨by omega, by omega⟩, ⟨by omega, by omega⟩⟩
end Go.Bk
namespace Go.Proofs.YtaiegbjgfdhgaaaGreatDoor
open Go.W Go.Bk
theorem zz1 {b : xb} (h : xv b) : ∀ l ∈ b.seen, (behind zoi zn5 l ++ [10]).length ≤ 90 := fun l hl => by
  have h1 := fm_len (l := l) (f := fun s => 32 :: zn5 s) (c := 17) fun s hs => zoI (h.s100 l hl s hs);have h2 : l.length * 17 ≤ 5 * 17 := Nat.mul_le_mul_right 17 (h.rows l hl).1;simp only [behind, zoi, List.length_append, List.length_cons, List.length_nil]; omega
theorem zu1 {b : xb} (h : xv b) (k : Nat) : (bT1 b k).length ≤ 400 := by
  have h1 := zrN (f := fun l => behind zoi zn5 l ++ [10]) (c := 90) (zz1 h) h.n k;have := (KT h.n100.1).2; have := (KT h.n100.2.1).2; have := (KT h.n100.2.2.1).2; have := (KT h.n100.2.2.2).2;simp only [bT1, zpr, zof, List.length_append, List.length_cons, List.length_nil]; omega
theorem zu2 {b : xb} (h : xv b) {k : Nat} (hk : k < b.seen.length) (j : Nat) : (bT2 b k j).length ≤ 500 := by
  have h1 := zrN (f := fun s => 32 :: zn5 s) (c := 17) (fun s hs => zoI (h.s100 _ (Ky hk) s hs)) (h.rows _ (Ky hk)).1 j;have := zu1 h k;simp only [bT2, zoi, List.length_append, List.length_cons, List.length_nil]; omega
theorem zw0 (b : xb) : zmA [.s (zof ++ [32]), .i b.wide, .s [120], .i b.deep, .s [32, 118], .i b.speed, .s [32, 116], .i b.last, .s [10]] = bT1 b 0 := by simp [zmA, zne, bT1, zpr]
theorem zw2 (b : xb) (k : Nat) : bT1 b k ++ zoi = bT2 b k 0 := by simp [bT2]
theorem zw1 {b : xb} {k j : Nat} (h : j < (gt b.seen k).length) : bT2 b k j ++ (32 :: zn5 (gt (gt b.seen k) j)) = bT2 b k (j + 1) := by unfold bT2; rw [zoj h]; simp
theorem zvZ {b : xb} {k : Nat} (h : k < b.seen.length) : bT2 b k (gt b.seen k).length ++ [10] = bT1 b (k + 1) := by
  unfold bT2 bT1; rw [zoj h, List.take_length]; simp [behind]
theorem zxW (b : xb) : bT1 b b.seen.length = zmu b := by
  simp [bT1, List.take_length, zmu, zo0, unl, List.flatMap_map]
theorem zts (s : zmz) : zmA [.s [32], .i s.minute, .s [64], .p s.cols, .s [44], .p s.rows] = 32 :: zn5 s := by simp [zmA, zne, zn5]
theorem zrk (f : Flag) (m : zmG) (hok : zmp f) (D : Imm) (hL : LibD true D) (hR : znr D f m) (w : World) (hH : Holds D w) : z8 Tryz.prog 137 [znT f m] w (st (zmN f)) := by
  unfold z8;obtain ⟨mt, mfz, hmk⟩ := (hL.marks rfl);obtain ⟨⟨ha, hn, hc⟩, ⟨sa, sn, sc⟩⟩ := m;obtain rfl : hn = f.hours.length := hR.h.len';obtain rfl : sn = f.seen.length := hR.s.len';have hRh : SlL D 3 (f.hours.map znU) ha f.hours.length := hR.h;have hRs : SlL D 2 (f.seen.map znc) sa f.seen.length := hR.s;have nh : f.hours.length ≤ 9223372036854775807 := hR.nh;have ns : f.seen.length ≤ 9223372036854775807 := hR.ns;refine en Tryz.func137 rfl Tryz.ntmps137 (Inv.start hH) (g [[1],[1,0]] ?_);refine WL.so (SO.box rfl rfl) rfl (zw fun b1 hb1 => ?_);refine g [[4],[14,2,1]] ?_;refine WL.so (SO.buildSlice1 UnF.h SzF.h ZvF.h rfl rfl rfl (vs := [_, _, _, _, _, _, _]) rfl rfl rfl) rfl ?_;rintro _ _ _ ⟨b22, hb22, rfl, rfl, rfl⟩;refine WL.cl rfl (fun w hI => show z8 Tryz.prog 130 _ w (st (fT1 f 0)) from zwg f ▸ Kt [.s zoc, .i f.low, .s [45], .i f.high, .s [47], .i f.quiet, .s (10 :: zo1)] _ _ _ _ (hL.ext ((DExt.refl _ D).add (hI.apart _ _ (List.mem_of_getElem? (i := 0) rfl)) hb22)) (SlL.ofBlock (l := [.s zoc, .i f.low, .s [45], .i f.high, .s [47], .i f.quiet, .s (10 :: zo1)]) (f := zoe) (m := 1) (rest := []) (fun _ => rfl) (Imm.add_self _ _ _)) (oks (zqb rfl) (oks (i100 hok.n100.1) (oks (zqb rfl) (oks (i100 hok.n100.2.1) (oks (zqb rfl) (oks (i100 hok.n100.2.2) (oks (zqb rfl) (okn)))))))) (by simp) _ (hI.freezeK 0 rfl).2.imm) (g [[5],[8,3,2,1]] ?_);refine WC.drop 1 (WC.loopT [] (fun k : Nat => [(1, pt b1), (3, st (fT1 f k)), (25, .slice ha f.hours.length hc), (26, nt f.hours.length), (27, nt k)]) (fun _ => [(b1, .cells (List.toArray [it f.low, it f.high, it f.quiet, .slice ha f.hours.length hc, .slice sa f.seen.length sc]) 53 (0, 0))]) (fun k => k ≤ f.hours.length) (fun k => f.hours.length - k) 0 (Nat.zero_le _) rfl ⟨rfl, rfl, rfl, rfl, rfl, trivial⟩ ?_);intro k hk;have hl1 := zrK hok k;refine g [[1],[5,1,3,25,26,27]] ?_;refine WC.cond rfl (fun c28 => ?_) (fun c28 => ?_)
  · try simp only [zq] at c28
    have hkl : k < f.hours.length := by omega
    have hx := hok.h100 _ (Ky hkl);have ht := (hok.hours _ (Ky hkl)).2;have hl2 := zrb hx;refine g [[5],[1,1,3,25,26,27]] ?_;refine WL.yd (Yd.ix rfl rfl (hRh.addr k (by omega))) rfl (WL.yd (Yd.lV [_, _, _] rfl ((hRh.at k (by omega)).rdn 0 3 rfl)) rfl ?_);refine WL.so (SO.alloc ZvF.h rfl) rfl (zw fun b5 hb5 => ?_);refine g [[3],[0,5,1,3,25,26,27]] ?_;refine WC.draw (pz [1,3,5,7,9,11,13,15,17,19,20,22,25,27]) zk zk zX (g [[7]] ?_);refine WA.yd rfl (Yd.indexA UnF.h SzF.h rfl rfl (by omega) (by omega)) rfl (WA.yd rfl (Yd.l1 rfl (Rd.imm hmk (zyO ht))) rfl (g [[1]] ?_));refine WA.so rfl (SO.buildSlice1 UnF.h SzF.h ZvF.h rfl rfl rfl (vs := [_, _, _]) rfl rfl rfl) rfl ?_;rintro _ _ _ ⟨b41, hb41, rfl, rfl, rfl⟩;refine ⟨fun _ hI => hI.tail, ?_⟩;refine WA.so rfl (SO.callP CaF.h rfl (fun w hI => show z8 Tryz.prog 130 _ w (st (32 :: zok (gt f.hours k))) from zuy (gt f.hours k) ▸ Kt [.s [32], .p (gt f.hours k).wind, .s (markT (gt f.hours k).thunder)] _ _ _ _ (hL.ext ((DExt.refl _ D).add (hI.apart _ _ (List.mem_of_getElem? (i := 0) rfl)) hb41)) (SlL.ofBlock (l := [.s [32], .p (gt f.hours k).wind, .s (markT (gt f.hours k).thunder)]) (f := zoe) (m := 1) (rest := []) (fun _ => rfl) (Imm.add_self _ _ _)) (oks (zqb rfl) (oks ⟨i100 hx.1, i100 hx.2⟩ (oks (by have := zrg (gt f.hours k).thunder; show (_ : Nat) ≤ 10000; omega) (okn)))) (by simp) _ (hI.freezeK 0 rfl).2.imm)) rfl (zs ⟨fun _ hI => hI.tail, ?_⟩);refine WA.yd rfl (Yd.addS rfl rfl (by first | omega | ((try simp only [List.length_append, List.length_cons, List.length_nil]); omega))) rfl (g [[4],[4,3,1,25,26,27]] ?_);exact WP.againT (k + 1) hkl (by omega) [_, _] _ rfl rfl ⟨rfl, zpe (zwf hkl), rfl, rfl, rfl, trivial⟩
  try simp only [zq] at c28
  obtain rfl : k = f.hours.length := by omega
  refine g [[6],[2,1,3]] ?_;have hl1 := zrK hok f.hours.length;have hl2 : (10 :: zpW).length = 5 := rfl;refine WL.yd (Yd.addS rfl rfl (by first | omega | ((try simp only [List.length_append, List.length_cons, List.length_nil]); omega))) rfl (g [[5],[8,3,1]] ?_);refine WC.loopT [] (fun k : Nat => [(1, pt b1), (3, st (fT2 f k)), (48, .slice sa f.seen.length sc), (49, nt f.seen.length), (50, nt k)]) (fun _ => [(b1, .cells (List.toArray [it f.low, it f.high, it f.quiet, .slice ha f.hours.length hc, .slice sa f.seen.length sc]) 53 (0, 0))]) (fun k => k ≤ f.seen.length) (fun k => f.seen.length - k) 0 (Nat.zero_le _) rfl ⟨rfl, zpe (zwh f), rfl, rfl, rfl, trivial⟩ ?_;intro k hk;have hl1 := zuh hok k;refine g [[1],[5,1,3,48,49,50]] ?_;refine WC.cond rfl (fun c51 => ?_) (fun c51 => ?_)
  · try simp only [zq] at c51
    have hkl : k < f.seen.length := by omega
    have hx := hok.s100 _ (Ky hkl);have hl2 := zrp hx;refine g [[5],[1,1,3,48,49,50]] ?_;refine WL.yd (Yd.ix rfl rfl (hRs.addr k (by omega))) rfl (WL.yd (Yd.lV [_, _] rfl ((hRs.at k (by omega)).rdn 0 2 rfl)) rfl ?_);refine WL.so (SO.alloc ZvF.h rfl) rfl (zw fun b7 hb7 => ?_);refine g [[4],[6,7,1,3,48,49,50],[5,8,7,1,3,48,49,50]] ?_;refine WC.cond rfl (fun c55 => ?_) (fun c55 => ?_)
    · refine g [[4,8,7,1,3,48,49,50],[8,8,7,1,3,48,49,50]] ?_;refine WL.so (SO.buildSlice1 UnF.h SzF.h ZvF.h rfl rfl rfl (vs := [_, _, _]) rfl rfl rfl) rfl ?_;rintro _ _ _ ⟨b63, hb63, rfl, rfl, rfl⟩;refine WL.cl rfl (fun w hI => show z8 Tryz.prog 130 _ w (st (32 :: znV (gt f.seen k))) from ztP c55 ▸ Kt [.s [32], .i (gt f.seen k).hour, .s [43]] _ _ _ _ (hL.ext ((DExt.refl _ D).add (hI.apart _ _ (List.mem_of_getElem? (i := 0) rfl)) hb63)) (SlL.ofBlock (l := [.s [32], .i (gt f.seen k).hour, .s [43]]) (f := zoe) (m := 1) (rest := []) (fun _ => rfl) (Imm.add_self _ _ _)) (oks (zqb rfl) (oks (i100 hx) (oks (zqb rfl) (okn)))) (by simp) _ (hI.freezeK 0 rfl).2.imm) ?_;refine WL.yd (Yd.addS rfl rfl (by first | omega | ((try simp only [List.length_append, List.length_cons, List.length_nil]); omega))) rfl (g [[4],[4,3,1,48,49,50]] ?_);exact WP.againT (k + 1) hkl (by omega) [_, _] _ rfl rfl ⟨rfl, zpe (zsB hkl), rfl, rfl, rfl, trivial⟩
    refine g [[2],[8,8,7,1,3,48,49,50]] ?_;refine WL.so (SO.buildSlice1 UnF.h SzF.h ZvF.h rfl rfl rfl (vs := [_, _, _]) rfl rfl rfl) rfl ?_;rintro _ _ _ ⟨b63, hb63, rfl, rfl, rfl⟩;refine WL.cl rfl (fun w hI => show z8 Tryz.prog 130 _ w (st (32 :: znV (gt f.seen k))) from ztO c55 ▸ Kt [.s [32], .i (gt f.seen k).hour, .s [45]] _ _ _ _ (hL.ext ((DExt.refl _ D).add (hI.apart _ _ (List.mem_of_getElem? (i := 0) rfl)) hb63)) (SlL.ofBlock (l := [.s [32], .i (gt f.seen k).hour, .s [45]]) (f := zoe) (m := 1) (rest := []) (fun _ => rfl) (Imm.add_self _ _ _)) (oks (zqb rfl) (oks (i100 hx) (oks (zqb rfl) (okn)))) (by simp) _ (hI.freezeK 0 rfl).2.imm) ?_;refine WL.yd (Yd.addS rfl rfl (by first | omega | ((try simp only [List.length_append, List.length_cons, List.length_nil]); omega))) rfl (g [[4],[4,3,1,48,49,50]] ?_);exact WP.againT (k + 1) hkl (by omega) [_, _] _ rfl rfl ⟨rfl, zpe (zsB hkl), rfl, rfl, rfl, trivial⟩
  try simp only [zq] at c51
  obtain rfl : k = f.seen.length := by omega
  refine g [[6],[2,3]] ?_;have hl1 := zuh hok f.seen.length;refine WL.yd (Yd.addS rfl rfl (by first | omega | ((try simp only [List.length_append, List.length_cons, List.length_nil]); omega))) rfl (g [[4]] ?_);refine WP.ret1 rfl rfl rfl (RV.tmp rfl) (fun w hI => ⟨by rw [zy8], hI.keep⟩)
theorem zq9 (b : xb) (m : zmn) (hok : xv b) (D : Imm) {kM : Bool} (hL : LibD kM D) (hR : zmv D b m) (w : World) (hH : Holds D w) : z8 Tryz.prog 150 [zmP b m] w (st (zmu b)) := by
  unfold z8;obtain ⟨⟨ba, bn, bc⟩, ml⟩ := m;have hml : ml.length = b.seen.length := hR.len;have hRs0 : SlL D 1 (ml.map slC) ba bn := hR.sl;obtain rfl : bn = b.seen.length := by have := hRs0.len'; omega
  have hRr : ∀ i, i < b.seen.length → SlL D 5 ((gt b.seen i).map bsC) (gt ml i).a (gt ml i).n := hR.row;have hRn : ∀ i, i < b.seen.length → (gt ml i).n ≤ 9223372036854775807 := hR.nr;have nb : b.seen.length ≤ 9223372036854775807 := hR.n;refine en Tryz.func150 rfl Tryz.ntmps150 (Inv.start hH) (g [[1],[1,0]] ?_);refine WL.so (SO.box rfl rfl) rfl (zw fun b1 hb1 => ?_);refine g [[4],[18,2,1]] ?_;refine WL.so (SO.buildSlice1 UnF.h SzF.h ZvF.h rfl rfl rfl (vs := [_, _, _, _, _, _, _, _, _]) rfl rfl rfl) rfl ?_;rintro _ _ _ ⟨b25, hb25, rfl, rfl, rfl⟩;refine WL.cl rfl (fun w hI => show z8 Tryz.prog 130 _ w (st (bT1 b 0)) from zw0 b ▸ Kt [.s (zof ++ [32]), .i b.wide, .s [120], .i b.deep, .s [32, 118], .i b.speed, .s [32, 116], .i b.last, .s [10]] _ _ _ _ (hL.ext ((DExt.refl _ D).add (hI.apart _ _ (List.mem_of_getElem? (i := 0) rfl)) hb25)) (SlL.ofBlock (l := [.s (zof ++ [32]), .i b.wide, .s [120], .i b.deep, .s [32, 118], .i b.speed, .s [32, 116], .i b.last, .s [10]]) (f := zoe) (m := 1) (rest := []) (fun _ => rfl) (Imm.add_self _ _ _)) (oks (zqb rfl) (oks (i100 hok.n100.1) (oks (zqb rfl) (oks (i100 hok.n100.2.1) (oks (zqb rfl) (oks (i100 hok.n100.2.2.1) (oks (zqb rfl) (oks (i100 hok.n100.2.2.2) (oks (zqb rfl) (okn)))))))))) (by simp) _ (hI.freezeK 0 rfl).2.imm) (g [[5],[8,3,2,1]] ?_);refine WC.drop 1 (WC.loopT [] (fun k : Nat => [(1, pt b1), (3, st (bT1 b k)), (28, .slice ba b.seen.length bc), (29, nt b.seen.length), (30, nt k)]) (fun _ => [(b1, .cells (List.toArray [it b.wide, it b.deep, it b.speed, it b.last, .slice ba b.seen.length bc]) 56 (0, 0))]) (fun k => k ≤ b.seen.length) (fun k => b.seen.length - k) 0 (Nat.zero_le _) rfl ⟨rfl, rfl, rfl, rfl, rfl, trivial⟩ ?_);intro k hk;have hl1 := zu1 hok k;refine g [[1],[5,1,3,28,29,30]] ?_;refine WC.cond rfl (fun c31 => ?_) (fun c31 => ?_)
  · try simp only [zq] at c31
    have hkl : k < b.seen.length := by omega
    have hr5 := (hok.rows _ (Ky hkl)).1;refine g [[5],[1,1,3,28,29,30]] ?_;refine WL.yd (Yd.ix rfl rfl (hRs0.addr k (by omega))) rfl (WL.yd (Yd.l1 rfl ((hRs0.at k (by omega)).rd 0 rfl)) rfl (g [[4],[1,5,1,3,28,29,30]] ?_));have hrow := hRr k hkl;have hrn := hRn k hkl;generalize gt ml k = q at hrow hrn ⊢;obtain ⟨ra, rn, rc⟩ := q;obtain rfl : rn = (gt b.seen k).length := hrow.len';dsimp only at hrow hrn;have hl2 : zoi.length = 4 := rfl;refine g [[1]] ?_;refine WL.yd (Yd.addS rfl rfl (by first | omega | ((try simp only [List.length_append, List.length_cons, List.length_nil]); omega))) rfl (g [[5],[1,3,5,1,28,29,30]] ?_);skip;refine g [[6]] ?_;refine WC.loopT [] (fun j : Nat => [(1, pt b1), (3, st (bT2 b k j)), (28, .slice ba b.seen.length bc), (29, nt b.seen.length), (30, nt k), (36, .slice ra (gt b.seen k).length rc), (37, nt (gt b.seen k).length), (38, nt j)]) (fun _ => [(b1, .cells (List.toArray [it b.wide, it b.deep, it b.speed, it b.last, .slice ba b.seen.length bc]) 56 (0, 0))]) (fun j => j ≤ (gt b.seen k).length) (fun j => (gt b.seen k).length - j) 0 (Nat.zero_le _) rfl ⟨rfl, zpe (zw2 b k), rfl, rfl, rfl, rfl, rfl, rfl, trivial⟩ ?_;intro j hj;have hl2 := zu2 hok hkl j;refine g [[1],[5,1,3,28,29,30,36,37,38]] ?_;refine WC.cond rfl (fun c39 => ?_) (fun c39 => ?_)
    · try simp only [zq] at c39
      have hjl : j < (gt b.seen k).length := by omega
      have hx := hok.s100 _ (Ky hkl) _ (Ky hjl);have hl3 := zoI hx;refine g [[5],[1,1,3,28,29,30,36,37,38]] ?_;refine WL.yd (Yd.ix rfl rfl (hrow.addr j (by omega))) rfl (WL.yd (Yd.lV [_, _, _, _, _] rfl ((hrow.at j (by omega)).rdn 0 5 rfl)) rfl ?_);refine WL.so (SO.alloc ZvF.h rfl) rfl (zw fun b7 hb7 => ?_);refine g [[3],[14,7,1,3,28,29,30,36,37,38]] ?_;refine WL.so (SO.buildSlice1 UnF.h SzF.h ZvF.h rfl rfl rfl (vs := [_, _, _, _, _, _]) rfl rfl rfl) rfl ?_;rintro _ _ _ ⟨b55, hb55, rfl, rfl, rfl⟩;refine WL.cl rfl (fun w hI => show z8 Tryz.prog 130 _ w (st (32 :: zn5 (gt (gt b.seen k) j))) from zts (gt (gt b.seen k) j) ▸ Kt [.s [32], .i (gt (gt b.seen k) j).minute, .s [64], .p (gt (gt b.seen k) j).cols, .s [44], .p (gt (gt b.seen k) j).rows] _ _ _ _ (hL.ext ((DExt.refl _ D).add (hI.apart _ _ (List.mem_of_getElem? (i := 0) rfl)) hb55)) (SlL.ofBlock (l := [.s [32], .i (gt (gt b.seen k) j).minute, .s [64], .p (gt (gt b.seen k) j).cols, .s [44], .p (gt (gt b.seen k) j).rows]) (f := zoe) (m := 1) (rest := []) (fun _ => rfl) (Imm.add_self _ _ _)) (oks (zqb rfl) (oks (i100 hx.1) (oks (zqb rfl) (oks ⟨i100 hx.2.1.1, i100 hx.2.1.2⟩ (oks (zqb rfl) (oks ⟨i100 hx.2.2.1, i100 hx.2.2.2⟩ (okn))))))) (by simp) _ (hI.freezeK 0 rfl).2.imm) ?_;refine WL.yd (Yd.addS rfl rfl (by first | omega | ((try simp only [List.length_append, List.length_cons, List.length_nil]); omega))) rfl (g [[4],[4,3,1,28,29,30,36,37,38]] ?_);exact WP.againT (j + 1) hjl (by omega) [_, _] _ rfl rfl ⟨rfl, zpe (zw1 hjl), rfl, rfl, rfl, rfl, rfl, rfl, trivial⟩
    try simp only [zq] at c39
    obtain rfl : j = (gt b.seen k).length := by omega
    refine g [[5],[1,1,3,28,29,30]] ?_;have hl2 := zu2 hok hkl (gt b.seen k).length;refine g [[1]] ?_;refine WL.yd (Yd.addS rfl rfl (by first | omega | ((try simp only [List.length_append, List.length_cons, List.length_nil]); omega))) rfl (g [[4],[4,3,1,28,29,30]] ?_);exact WP.againT (k + 1) hkl (by omega) [] _ rfl rfl ⟨rfl, zpe (zvZ hkl), rfl, rfl, rfl, trivial⟩
  try simp only [zq] at c31
  obtain rfl : k = b.seen.length := by omega
  refine g [[6],[6,3]] ?_;refine WP.ret1 rfl rfl rfl (RV.tmp rfl) (fun w hI => ⟨by rw [zxW], hI.keep⟩)
theorem zBq : zj Tryz.prog 139 [.int .i64 0, .int .i64 0, .int .i64 0] [(0, 1), (1, 1), (2, 1)] := ⟨⟨_, Tryz.zeroValue139, rfl⟩, _, Tryz.underlying139, fun w => by simp [Tryz.sizeOf3]⟩
abbrev zzE := SaF.mk zBq
attribute [instance] zzE
theorem zr1 : ∀ (n : Nat) (s : Bs) (l : List Sp), znv n s = some l → l.length ≤ s.length
  | 0, s, l, h => by cases h; simp
  | n + 1, s, l, h => by
    rw [znv] at h;split at h
    · cases h; simp
    rename_i hs
    split at h
    · cases h
    cases e : znv n (s.drop 6) with
    | none => rw [e] at h; cases h
    | some l2 =>
      rw [e] at h; cases h;have h1 := zr1 n _ _ e;have h2 : 0 < s.length := List.length_pos_iff.2 hs;simp only [List.length_cons, List.length_drop] at h1 ⊢; omega
theorem zp6 {s w : Bs} {l : List Sp} (h : zmH s w = some l) : l.length ≤ s.length := by
  unfold zmH at h;split at h
  · have := zr1 _ _ _ h; simp at this; omega
  cases h
theorem zqf {α : Type} {take : Bs → Option α} : ∀ (n : Nat) (s : Bs) (l : List α), zmK take n s = some l → l.length ≤ s.length
  | 0, s, l, h => by cases h; simp
  | n + 1, [], l, h => by cases h; simp
  | n + 1, c :: r, l, h => by
    rw [zmK] at h;split at h
    · split at h
      · cases h
      cases e : zmK take n (r.dropWhile (· != 32)) with
      | none => rw [e] at h; cases h
      | some l2 =>
        rw [e] at h; cases h;have h1 := zqf n _ _ e;have := znJ r;simp only [List.length_cons]; omega
    cases h
theorem zo3 {α : Type} {take : Bs → Option α} {s w : Bs} {l : List α} (h : znm take s w = some l) : l.length ≤ s.length := by
  unfold znm at h;split at h
  · have := zqf _ _ _ h; simp at this; omega
  cases h
def zvy (x : Surf) (W V : Sl) (o : Option Ow) : List Value := [it x.rows, it x.step, slV W, slV V, owV o x.huts.length]
structure zHK (w0 : World) (b : Nat) (k : Nat) (x : Surf) (W V : Sl) (o : Option Ow) (D : Imm) (h : Hp) : Prop where
  rw : SlL D 2 (x.water.map spC) W.a W.n
  rv : SlL D 2 (x.waves.map spC) V.a V.n
  ro : owP w0 o x.huts.length 3
  nw : W.n ≤ 2 ^ 30
  nv : V.n ≤ 2 ^ 30
  n : x.huts.length ≤ k
  e : h = (b, .cells (zvy x W V o).toArray 49 (0, 0)) :: owH o 139 (x.huts.flatMap hutC) []
def zrs (w0 : World) (b : Nat) (k : Nat) (x : Surf) (D : Imm) (h : Hp) : Prop := ∃ W V o, zHK w0 b k x W V o D h
theorem zrs.ext {w w0 : World} {b k : Nat} {x : Surf} {D D' : Imm} {h : Hp} (hD : DExt w D D') (hS : zrs w0 b k x D h) : zrs w0 b k x D' h := by
  obtain ⟨W, V, o, hS⟩ := hS;exact ⟨W, V, o, hS.rw.ext hD, hS.rv.ext hD, hS.ro, hS.nw, hS.nv, hS.n, hS.e⟩
def zzi {X : Type} (T : Nat → X → Imm → Hp → Prop) (r : Option X) (k : Nat) (D : Imm) (h : Hp) : Prop := ∃ x, r = some x ∧ T (k + 1) x D h
def takeC {X : Type} (r : Option X) (ch : List PanicEntry) (_ : Imm) (h : Hp) : Prop := ch = znX 8 ∧ r = none ∧ h = []
theorem ztT (w0 : World) (b : Nat) (x : Surf) (k : Nat) (hk : k ≤ 2 ^ 20) (l : Bs) (hl : l.length ≤ 2 ^ 20) (D : Imm) {kM : Bool} (hL : LibD kM D) (w1 : World) (hw : w0.heap.size ≤ w1.heap.size) (h : Hp) (hS : zrs w0 b k x D h) (hI : Inv D h (keys h) w1 w1) : V4 Tryz.prog 132 [pt b, nt k, st l] w1 D (keys h) (zzi (zrs w0 b) (zmV x k l) k) (takeC (zmV x k l)) := by
  unfold V4;obtain ⟨W, V, o, hW, hV, ho, hWn, hVn, hxn, rfl⟩ := hS;refine en Tryz.func132 rfl Tryz.ntmps132 hI (g [[1],[6,0,1,2],[5,6,0,2]] ?_);refine WC.cond rfl (fun c30 => ?_) (fun c30 => ?_)
  · try simp only [zq] at c30
    obtain rfl : k = 0 := by omega
    refine g [[4,0,2]] ?_;refine WL.cl rfl (fun w hI => zqT l zpf _) ?_;rcases h37 : UA (Lib.trimPrefix l zpf) [120] with _ | p
    · refine WL.nf rfl (fun w hI => (zp8 _ _ (by have := zmL l zpf; omega) D hL _ hI.imm).no (by rw [h37]; rfl)) (g [[1]] ?_);refine WP.panicBody rfl (fun w hI => ⟨D, [], DExt.refl _ _, Inv.nil hI, .inr ⟨_, rfl, rfl, ?_, rfl⟩⟩);exact (congrArg (Option.map _) h37).trans rfl
    skip;refine WL.cl rfl (fun w hI => (zp8 _ _ (by have := zmL l zpf; omega) D hL _ hI.imm).ok (by rw [h37]; rfl)) (g [[11]] ?_);refine WP.ret0 rfl rfl rfl  (fun w hI => ⟨_, _, DExt.refl _ _, hI, .inl ⟨_, rfl, ⟨{ x with rows := p.1, step := p.2 }, (congrArg (Option.map _) h37).trans rfl, W, V, o, hW, hV, ho, hWn, hVn, by show x.huts.length ≤ _; omega, rfl⟩⟩⟩)
  try simp only [zq] at c30
  refine g [[1],[5,6,0,2]] ?_;refine WC.cond rfl (fun c44 => ?_) (fun c44 => ?_)
  · try simp only [zq] at c44
    obtain rfl : k = 1 := by omega
    refine g [[3,0,2]] ?_;rcases h48 : zmH l zo9 with _ | c
    · refine WL.nf rfl (fun w hI => (zos _ _ hl D hL _ hI.imm).no h48) (g [[1]] ?_);refine WP.panicBody rfl (fun w hI => ⟨D, [], DExt.refl _ _, Inv.nil hI, .inr ⟨_, rfl, rfl, ?_, rfl⟩⟩);exact (congrArg (Option.map _) h48).trans rfl
    skip;refine WL.so (SO.makes (Enters.func Tryz.call135 rfl) (fun w hI => (zos _ _ hl D hL _ hI.imm).ok h48)) rfl ?_;rintro _ D1 _ ⟨hX1, ⟨a1, n1, c1, rfl, hS1⟩, rfl⟩;refine g [[5]] ?_;refine WP.ret0 rfl rfl rfl  (fun w hI => ⟨_, _, hX1, hI, .inl ⟨_, rfl, ⟨{ x with water := c }, (congrArg (Option.map _) h48).trans rfl, ⟨a1, n1, c1⟩, V, o, hS1, hV.ext hX1, ho, by have := zp6 h48; have := hS1.len'; show n1 ≤ _; omega, hVn, by show x.huts.length ≤ _; omega, rfl⟩⟩⟩)
  try simp only [zq] at c44
  refine g [[1],[5,6,0,2]] ?_;refine WC.cond rfl (fun c51 => ?_) (fun c51 => ?_)
  · try simp only [zq] at c51
    obtain rfl : k = 2 := by omega
    refine g [[3,0,2]] ?_;rcases h55 : zmH l zoh with _ | c
    · refine WL.nf rfl (fun w hI => (zos _ _ hl D hL _ hI.imm).no h55) (g [[1]] ?_);refine WP.panicBody rfl (fun w hI => ⟨D, [], DExt.refl _ _, Inv.nil hI, .inr ⟨_, rfl, rfl, ?_, rfl⟩⟩);exact (congrArg (Option.map _) h55).trans rfl
    skip;refine WL.so (SO.makes (Enters.func Tryz.call135 rfl) (fun w hI => (zos _ _ hl D hL _ hI.imm).ok h55)) rfl ?_;rintro _ D1 _ ⟨hX1, ⟨a1, n1, c1, rfl, hS1⟩, rfl⟩;refine g [[5]] ?_;refine WP.ret0 rfl rfl rfl  (fun w hI => ⟨_, _, hX1, hI, .inl ⟨_, rfl, ⟨{ x with waves := c }, (congrArg (Option.map _) h55).trans rfl, W, ⟨a1, n1, c1⟩, o, hW.ext hX1, hS1, ho, hWn, by have := zp6 h55; have := hS1.len'; show n1 ≤ _; omega, by show x.huts.length ≤ _; omega, rfl⟩⟩⟩)
  try simp only [zq] at c51
  obtain ⟨j, rfl⟩ : ∃ j, k = j + 3 := ⟨k - 3, by omega⟩;refine g [[1],[2,0,2]] ?_;refine WL.yd (Yd.lenStr rfl Tryz.underlying9 rfl) rfl (g [[1]] ?_);refine WL.part 9 rfl (fun g9 => ?_) (fun g9 => ?_)
  · try simp only [zq] at g9
    have hl11 : l.length = 11 := by omega
    refine WL.cl rfl (fun w hI => zmq _ _) (g [[2],[0,0,2]] ?_);refine WC.drawH [] zk (fun _ hI => Inv.nil hI) (g [[1000],[1001],[1002],[1003],[1005]] ?_);refine WH.yd (i := 6) zk zX rfl (Yd.sliceMidS (i := 4) (j := 6) Tryz.underlying9 rfl rfl rfl (by omega) (by omega)) rfl (g [[1008]] ?_);refine WH.yd (i := 9) zk zX rfl (Yd.sliceMidS (i := 7) (j := 9) Tryz.underlying9 rfl rfl rfl (by omega) (by omega)) rfl (g [[1011]] ?_);refine WH.yd (i := 12) zk zX rfl (Yd.sliceFromS (i := 10) Tryz.underlying9 rfl rfl (by omega)) rfl ?_;refine WH.two (i := 4) (j := 7) zk ?_ ?_
    · refine WHo.yd rfl (Yd.l1 rfl (Rd.own (k := 0) rfl rfl)) rfl ?_;rcases h18 : numP ((l.drop 4).take 2) with _ | n1
      · refine WH.one (i := 7) zk (WHo.no rfl (SO.fail (Enters.func CaF.h rfl) (fun w hI => (Js _ (by simp; omega) D hL _ hI.imm).no (by rw [h18]; rfl)) (g [[1]] ?_)));refine WP.panicBody rfl (fun w hI => ⟨D, [], DExt.refl _ _, Inv.nil hI, .inr ⟨_, rfl, rfl, ?_, rfl⟩⟩);simp_all [zmV]
      skip;refine WH.one (i := 7) zk (WHo.so rfl (SO.callP CaF.h rfl (fun w hI => (Js _ (by simp; omega) D hL _ hI.imm).ok (by rw [h18]; rfl))) rfl (zs ⟨(fun _ hI => Inv.nil hI), ?_⟩));rcases h21 : numP ((l.drop 7).take 2) with _ | n2
      · refine WH.one (i := 10) zk (WHo.no rfl (SO.fail (Enters.func CaF.h rfl) (fun w hI => (Js _ (by simp; omega) D hL _ hI.imm).no (by rw [h21]; rfl)) (g [[1]] ?_)));refine WP.panicBody rfl (fun w hI => ⟨D, [], DExt.refl _ _, Inv.nil hI, .inr ⟨_, rfl, rfl, ?_, rfl⟩⟩);simp_all [zmV]
      skip;refine WH.one (i := 10) zk (WHo.so rfl (SO.callP CaF.h rfl (fun w hI => (Js _ (by simp; omega) D hL _ hI.imm).ok (by rw [h21]; rfl))) rfl (zs ⟨(fun _ hI => Inv.nil hI), ?_⟩));rcases h24 : numP (l.drop 10) with _ | n3
      · refine WH.one (i := 13) zk (WHo.no rfl (SO.fail (Enters.func CaF.h rfl) (fun w hI => (Js _ (by simp; omega) D hL _ hI.imm).no (by rw [h24]; rfl)) (g [[1]] ?_)));refine WP.panicBody rfl (fun w hI => ⟨D, [], DExt.refl _ _, Inv.nil hI, .inr ⟨_, rfl, rfl, ?_, rfl⟩⟩);simp_all [zmV]
      skip;refine WH.one (i := 13) zk (WHo.so rfl (SO.callP CaF.h rfl (fun w hI => (Js _ (by simp; omega) D hL _ hI.imm).ok (by rw [h24]; rfl))) rfl (zs ⟨(fun _ hI => Inv.nil hI), ?_⟩));refine g [[1014]] ?_;refine WH.one (i := 15) zk (WHo.so rfl (SO.buildSlice UnF.h SzF.h ZvF.h rfl rfl rfl rfl (cs := [_, _, _]) rfl) rfl ?_);rintro _ _ _ ⟨b26, hb26, rfl, rfl, rfl⟩;refine ⟨(fun _ hI => Inv.nil hI), ?_⟩;refine WH.one (i := 16) zk (WHo.so rfl (SO.appendOwW (W := w0) hw (o := o) (len := x.huts.length) (n := 1) (xs := (x.huts.flatMap hutC)) (size := 3) [_] [_] [] rfl rfl Tryz.underlying47 Tryz.sizeOf139 Tryz.typeInfo139 Tryz.zeroValue139 rfl rfl rfl rfl ⟨rfl, .inr ⟨_, _, _, rfl, RdN.own (k := 0) (n := 3) rfl rfl⟩⟩ (za rfl) ho (zr zob _) (by omega) (by show (2 * (_ + _) + 1000) * 24 ≤ 2 ^ 48; omega) (by omega)) rfl ?_);rintro _ _ _ ⟨u1, hu1, rfl, rfl, rfl⟩;refine ⟨(fun _ hI => Inv.nil hI), ?_⟩;refine g [[1017],[1018]] ?_;refine WH.one (i := 19) zk (WHo.so rfl (SO.store 0 rfl SzF.h rfl rfl rfl rfl (zqb rfl) (za rfl)) rfl ?_);rintro _ _ _ ⟨rfl, rfl, rfl⟩;refine ⟨(fun _ hI => Inv.nil hI), ?_⟩;refine WH.nil zk (g [[1]] ?_);refine WP.ret0 rfl rfl rfl  (fun w hI => ⟨_, _, DExt.refl _ _, hI, .inl ⟨_, rfl, ⟨{ x with huts := x.huts ++ [⟨n1, n2, n3⟩] }, by simp only [zmV]; rw [if_pos hl11, h18, h21, h24], W, V, some u1, hW, hV, by simpa using hu1, hWn, hVn, by simp; omega, by show _ = (b, Obj.cells (List.toArray [it x.rows, it x.step, slV W, slV V, owV (some u1) (x.huts ++ [_]).length]) _ _) :: owH (some u1) _ ((x.huts ++ [_]).flatMap hutC) []; rw [List.flatMap_append, List.length_append]; rfl⟩⟩⟩)
    rcases h18 : numP ((l.drop 4).take 2) with _ | n1
    · refine WHo.no rfl (SO.fail (Enters.func CaF.h rfl) (fun w hI => (Js _ (by simp; omega) D hL _ hI.imm).no (by rw [h18]; rfl)) (g [[1]] ?_));refine WP.panicBody rfl (fun w hI => ⟨D, [], DExt.refl _ _, Inv.nil hI, .inr ⟨_, rfl, rfl, ?_, rfl⟩⟩);simp_all [zmV]
    skip;refine WHo.so rfl (SO.callP CaF.h rfl (fun w hI => (Js _ (by simp; omega) D hL _ hI.imm).ok (by rw [h18]; rfl))) rfl (zs ⟨(fun _ hI => Inv.nil hI), ?_⟩);refine WH.two (i := 4) (j := 10) zk ?_ ?_
    · refine WHo.yd rfl (Yd.l1 rfl (Rd.own (k := 0) rfl rfl)) rfl ?_;rcases h21 : numP ((l.drop 7).take 2) with _ | n2
      · refine WH.one (i := 10) zk (WHo.no rfl (SO.fail (Enters.func CaF.h rfl) (fun w hI => (Js _ (by simp; omega) D hL _ hI.imm).no (by rw [h21]; rfl)) (g [[1]] ?_)));refine WP.panicBody rfl (fun w hI => ⟨D, [], DExt.refl _ _, Inv.nil hI, .inr ⟨_, rfl, rfl, ?_, rfl⟩⟩);simp_all [zmV]
      skip;refine WH.one (i := 10) zk (WHo.so rfl (SO.callP CaF.h rfl (fun w hI => (Js _ (by simp; omega) D hL _ hI.imm).ok (by rw [h21]; rfl))) rfl (zs ⟨(fun _ hI => Inv.nil hI), ?_⟩));rcases h24 : numP (l.drop 10) with _ | n3
      · refine WH.one (i := 13) zk (WHo.no rfl (SO.fail (Enters.func CaF.h rfl) (fun w hI => (Js _ (by simp; omega) D hL _ hI.imm).no (by rw [h24]; rfl)) (g [[1]] ?_)));refine WP.panicBody rfl (fun w hI => ⟨D, [], DExt.refl _ _, Inv.nil hI, .inr ⟨_, rfl, rfl, ?_, rfl⟩⟩);simp_all [zmV]
      skip;refine WH.one (i := 13) zk (WHo.so rfl (SO.callP CaF.h rfl (fun w hI => (Js _ (by simp; omega) D hL _ hI.imm).ok (by rw [h24]; rfl))) rfl (zs ⟨(fun _ hI => Inv.nil hI), ?_⟩));refine g [[1014]] ?_;refine WH.one (i := 15) zk (WHo.so rfl (SO.buildSlice UnF.h SzF.h ZvF.h rfl rfl rfl rfl (cs := [_, _, _]) rfl) rfl ?_);rintro _ _ _ ⟨b26, hb26, rfl, rfl, rfl⟩;refine ⟨(fun _ hI => Inv.nil hI), ?_⟩;refine WH.one (i := 16) zk (WHo.so rfl (SO.appendOwW (W := w0) hw (o := o) (len := x.huts.length) (n := 1) (xs := (x.huts.flatMap hutC)) (size := 3) [_] [_] [] rfl rfl Tryz.underlying47 Tryz.sizeOf139 Tryz.typeInfo139 Tryz.zeroValue139 rfl rfl rfl rfl ⟨rfl, .inr ⟨_, _, _, rfl, RdN.own (k := 0) (n := 3) rfl rfl⟩⟩ (za rfl) ho (zr zob _) (by omega) (by show (2 * (_ + _) + 1000) * 24 ≤ 2 ^ 48; omega) (by omega)) rfl ?_);rintro _ _ _ ⟨u1, hu1, rfl, rfl, rfl⟩;refine ⟨(fun _ hI => Inv.nil hI), ?_⟩;refine g [[1017],[1018]] ?_;refine WH.one (i := 19) zk (WHo.so rfl (SO.store 0 rfl SzF.h rfl rfl rfl rfl (zqb rfl) (za rfl)) rfl ?_);rintro _ _ _ ⟨rfl, rfl, rfl⟩;refine ⟨(fun _ hI => Inv.nil hI), ?_⟩;refine WH.nil zk (g [[1]] ?_);refine WP.ret0 rfl rfl rfl  (fun w hI => ⟨_, _, DExt.refl _ _, hI, .inl ⟨_, rfl, ⟨{ x with huts := x.huts ++ [⟨n1, n2, n3⟩] }, by simp only [zmV]; rw [if_pos hl11, h18, h21, h24], W, V, some u1, hW, hV, by simpa using hu1, hWn, hVn, by simp; omega, by show _ = (b, Obj.cells (List.toArray [it x.rows, it x.step, slV W, slV V, owV (some u1) (x.huts ++ [_]).length]) _ _) :: owH (some u1) _ ((x.huts ++ [_]).flatMap hutC) []; rw [List.flatMap_append, List.length_append]; rfl⟩⟩⟩)
    rcases h21 : numP ((l.drop 7).take 2) with _ | n2
    · refine WHo.no rfl (SO.fail (Enters.func CaF.h rfl) (fun w hI => (Js _ (by simp; omega) D hL _ hI.imm).no (by rw [h21]; rfl)) (g [[1]] ?_));refine WP.panicBody rfl (fun w hI => ⟨D, [], DExt.refl _ _, Inv.nil hI, .inr ⟨_, rfl, rfl, ?_, rfl⟩⟩);simp_all [zmV]
    skip;refine WHo.so rfl (SO.callP CaF.h rfl (fun w hI => (Js _ (by simp; omega) D hL _ hI.imm).ok (by rw [h21]; rfl))) rfl (zs ⟨(fun _ hI => Inv.nil hI), ?_⟩);refine WH.two (i := 4) (j := 13) zk ?_ ?_
    · refine WHo.yd rfl (Yd.l1 rfl (Rd.own (k := 0) rfl rfl)) rfl ?_;rcases h24 : numP (l.drop 10) with _ | n3
      · refine WH.one (i := 13) zk (WHo.no rfl (SO.fail (Enters.func CaF.h rfl) (fun w hI => (Js _ (by simp; omega) D hL _ hI.imm).no (by rw [h24]; rfl)) (g [[1]] ?_)));refine WP.panicBody rfl (fun w hI => ⟨D, [], DExt.refl _ _, Inv.nil hI, .inr ⟨_, rfl, rfl, ?_, rfl⟩⟩);simp_all [zmV]
      skip;refine WH.one (i := 13) zk (WHo.so rfl (SO.callP CaF.h rfl (fun w hI => (Js _ (by simp; omega) D hL _ hI.imm).ok (by rw [h24]; rfl))) rfl (zs ⟨(fun _ hI => Inv.nil hI), ?_⟩));refine g [[1014]] ?_;refine WH.one (i := 15) zk (WHo.so rfl (SO.buildSlice UnF.h SzF.h ZvF.h rfl rfl rfl rfl (cs := [_, _, _]) rfl) rfl ?_);rintro _ _ _ ⟨b26, hb26, rfl, rfl, rfl⟩;refine ⟨(fun _ hI => Inv.nil hI), ?_⟩;refine WH.one (i := 16) zk (WHo.so rfl (SO.appendOwW (W := w0) hw (o := o) (len := x.huts.length) (n := 1) (xs := (x.huts.flatMap hutC)) (size := 3) [_] [_] [] rfl rfl Tryz.underlying47 Tryz.sizeOf139 Tryz.typeInfo139 Tryz.zeroValue139 rfl rfl rfl rfl ⟨rfl, .inr ⟨_, _, _, rfl, RdN.own (k := 0) (n := 3) rfl rfl⟩⟩ (za rfl) ho (zr zob _) (by omega) (by show (2 * (_ + _) + 1000) * 24 ≤ 2 ^ 48; omega) (by omega)) rfl ?_);rintro _ _ _ ⟨u1, hu1, rfl, rfl, rfl⟩;refine ⟨(fun _ hI => Inv.nil hI), ?_⟩;refine g [[1017],[1018]] ?_;refine WH.one (i := 19) zk (WHo.so rfl (SO.store 0 rfl SzF.h rfl rfl rfl rfl (zqb rfl) (za rfl)) rfl ?_);rintro _ _ _ ⟨rfl, rfl, rfl⟩;refine ⟨(fun _ hI => Inv.nil hI), ?_⟩;refine WH.nil zk (g [[1]] ?_);refine WP.ret0 rfl rfl rfl  (fun w hI => ⟨_, _, DExt.refl _ _, hI, .inl ⟨_, rfl, ⟨{ x with huts := x.huts ++ [⟨n1, n2, n3⟩] }, by simp only [zmV]; rw [if_pos hl11, h18, h21, h24], W, V, some u1, hW, hV, by simpa using hu1, hWn, hVn, by simp; omega, by show _ = (b, Obj.cells (List.toArray [it x.rows, it x.step, slV W, slV V, owV (some u1) (x.huts ++ [_]).length]) _ _) :: owH (some u1) _ ((x.huts ++ [_]).flatMap hutC) []; rw [List.flatMap_append, List.length_append]; rfl⟩⟩⟩)
    rcases h24 : numP (l.drop 10) with _ | n3
    · refine WHo.no rfl (SO.fail (Enters.func CaF.h rfl) (fun w hI => (Js _ (by simp; omega) D hL _ hI.imm).no (by rw [h24]; rfl)) (g [[1]] ?_));refine WP.panicBody rfl (fun w hI => ⟨D, [], DExt.refl _ _, Inv.nil hI, .inr ⟨_, rfl, rfl, ?_, rfl⟩⟩);simp_all [zmV]
    skip;refine WHo.so rfl (SO.callP CaF.h rfl (fun w hI => (Js _ (by simp; omega) D hL _ hI.imm).ok (by rw [h24]; rfl))) rfl (zs ⟨(fun _ hI => Inv.nil hI), ?_⟩);refine g [[1014]] ?_;refine WH.two (i := 4) (j := 15) zk ?_ ?_
    · refine WHo.yd rfl (Yd.l1 rfl (Rd.own (k := 0) rfl rfl)) rfl ?_;refine WH.one (i := 15) zk (WHo.so rfl (SO.buildSlice UnF.h SzF.h ZvF.h rfl rfl rfl rfl (cs := [_, _, _]) rfl) rfl ?_);rintro _ _ _ ⟨b26, hb26, rfl, rfl, rfl⟩;refine ⟨(fun _ hI => Inv.nil hI), ?_⟩;refine WH.one (i := 16) zk (WHo.so rfl (SO.appendOwW (W := w0) hw (o := o) (len := x.huts.length) (n := 1) (xs := (x.huts.flatMap hutC)) (size := 3) [_] [_] [] rfl rfl Tryz.underlying47 Tryz.sizeOf139 Tryz.typeInfo139 Tryz.zeroValue139 rfl rfl rfl rfl ⟨rfl, .inr ⟨_, _, _, rfl, RdN.own (k := 0) (n := 3) rfl rfl⟩⟩ (za rfl) ho (zr zob _) (by omega) (by show (2 * (_ + _) + 1000) * 24 ≤ 2 ^ 48; omega) (by omega)) rfl ?_);rintro _ _ _ ⟨u1, hu1, rfl, rfl, rfl⟩;refine ⟨(fun _ hI => Inv.nil hI), ?_⟩;refine g [[1017],[1018]] ?_;refine WH.one (i := 19) zk (WHo.so rfl (SO.store 0 rfl SzF.h rfl rfl rfl rfl (zqb rfl) (za rfl)) rfl ?_);rintro _ _ _ ⟨rfl, rfl, rfl⟩;refine ⟨(fun _ hI => Inv.nil hI), ?_⟩;refine WH.nil zk (g [[1]] ?_);refine WP.ret0 rfl rfl rfl  (fun w hI => ⟨_, _, DExt.refl _ _, hI, .inl ⟨_, rfl, ⟨{ x with huts := x.huts ++ [⟨n1, n2, n3⟩] }, by simp only [zmV]; rw [if_pos hl11, h18, h21, h24], W, V, some u1, hW, hV, by simpa using hu1, hWn, hVn, by simp; omega, by show _ = (b, Obj.cells (List.toArray [it x.rows, it x.step, slV W, slV V, owV (some u1) (x.huts ++ [_]).length]) _ _) :: owH (some u1) _ ((x.huts ++ [_]).flatMap hutC) []; rw [List.flatMap_append, List.length_append]; rfl⟩⟩⟩)
    refine WHo.so rfl (SO.buildSlice UnF.h SzF.h ZvF.h rfl rfl rfl rfl (cs := [_, _, _]) rfl) rfl ?_;rintro _ _ _ ⟨b26, hb26, rfl, rfl, rfl⟩;refine ⟨(fun _ hI => Inv.nil hI), ?_⟩;refine WH.one (i := 4) zk (WHo.yd rfl (Yd.l1 rfl (Rd.own (k := 1) rfl rfl)) rfl ?_);refine WH.one (i := 16) zk (WHo.so rfl (SO.appendOwW (W := w0) hw (o := o) (len := x.huts.length) (n := 1) (xs := (x.huts.flatMap hutC)) (size := 3) [_] [_] [] rfl rfl Tryz.underlying47 Tryz.sizeOf139 Tryz.typeInfo139 Tryz.zeroValue139 rfl rfl rfl rfl ⟨rfl, .inr ⟨_, _, _, rfl, RdN.own (k := 0) (n := 3) rfl rfl⟩⟩ (za rfl) ho (zr zob _) (by omega) (by show (2 * (_ + _) + 1000) * 24 ≤ 2 ^ 48; omega) (by omega)) rfl ?_);rintro _ _ _ ⟨u1, hu1, rfl, rfl, rfl⟩;refine ⟨(fun _ hI => Inv.nil hI), ?_⟩;refine g [[1017],[1018]] ?_;refine WH.one (i := 19) zk (WHo.so rfl (SO.store 0 rfl SzF.h rfl rfl rfl rfl (zqb rfl) (za rfl)) rfl ?_);rintro _ _ _ ⟨rfl, rfl, rfl⟩;refine ⟨(fun _ hI => Inv.nil hI), ?_⟩;refine WH.nil zk (g [[1]] ?_);refine WP.ret0 rfl rfl rfl  (fun w hI => ⟨_, _, DExt.refl _ _, hI, .inl ⟨_, rfl, ⟨{ x with huts := x.huts ++ [⟨n1, n2, n3⟩] }, by simp only [zmV]; rw [if_pos hl11, h18, h21, h24], W, V, some u1, hW, hV, by simpa using hu1, hWn, hVn, by simp; omega, by show _ = (b, Obj.cells (List.toArray [it x.rows, it x.step, slV W, slV V, owV (some u1) (x.huts ++ [_]).length]) _ _) :: owH (some u1) _ ((x.huts ++ [_]).flatMap hutC) []; rw [List.flatMap_append, List.length_append]; rfl⟩⟩⟩)
  try simp only [zq] at g9
  refine WL.nf rfl (fun w hI => qs _ _) (g [[2]] ?_);refine WP.panicBody rfl (fun w hI => ⟨D, [], DExt.refl _ _, Inv.nil hI, .inr ⟨_, rfl, rfl, ?_, rfl⟩⟩);simp only [zmV]; rw [if_neg (by omega)]
theorem zBz : zj Tryz.prog 241 [.nilFunc] [(0, 1)] := ⟨⟨_, Tryz.zeroValue241, rfl⟩, _, Tryz.underlying241, fun w => by simp [Tryz.sizeOf239]⟩
abbrev zzN := SaF.mk zBz
attribute [instance] zzN
theorem ze0 : zj Tryz.prog 247 [.nilFunc] [(0, 1)] := ⟨⟨_, Tryz.zeroValue247, rfl⟩, _, Tryz.underlying247, fun w => by simp [Tryz.sizeOf245]⟩
abbrev zbR := SaF.mk ze0
attribute [instance] zbR
def zxs (x : Flag) (H S : Sl) : List Value := [it x.low, it x.high, it x.quiet, slV H, slV S]
structure zBX (b : Nat) (x : Flag) (H S : Sl) (D : Imm) (h : Hp) : Prop where
  rh : SlL D 3 (x.hours.map znU) H.a H.n
  rs : SlL D 2 (x.seen.map znc) S.a S.n
  nh : H.n ≤ 2 ^ 30
  ns : S.n ≤ 2 ^ 30
  e : h = [(b, .cells (zxs x H S).toArray 53 (0, 0))]
def zr4 (_ : World) (b : Nat) (_ : Nat) (x : Flag) (D : Imm) (h : Hp) : Prop := ∃ H S, zBX b x H S D h
theorem zr4.ext {w w0 : World} {b k : Nat} {x : Flag} {D D' : Imm} {h : Hp} (hD : DExt w D D') (hS : zr4 w0 b k x D h) : zr4 w0 b k x D' h := by
  obtain ⟨H, S, hS⟩ := hS;exact ⟨H, S, hS.rh.ext hD, hS.rs.ext hD, hS.nh, hS.ns, hS.e⟩
theorem ztS (w0 : World) (b : Nat) (x : Flag) (k : Nat) (hk : k ≤ 2 ^ 20) (l : Bs) (hl : l.length ≤ 2 ^ 20) (D : Imm) (hL : LibD true D) (w1 : World) (hw : w0.heap.size ≤ w1.heap.size) (h : Hp) (hS : zr4 w0 b k x D h) (hI : Inv D h (keys h) w1 w1) : V4 Tryz.prog 139 [pt b, nt k, st l] w1 D (keys h) (zzi (zr4 w0 b) (znw x k l) k) (takeC (znw x k l)) := by
  unfold V4;obtain ⟨H, S, hH, hS, hHn, hSn, rfl⟩ := hS;refine en Tryz.func139 rfl Tryz.ntmps139 hI (g [[1],[6,0,1,2],[5,9,0,2]] ?_);refine WC.cond rfl (fun c11 => ?_) (fun c11 => ?_)
  · try simp only [zq] at c11
    obtain rfl : k = 0 := by omega
    refine g [[1],[2,0,2]] ?_;refine WL.cl rfl (fun w hI => zqT l zoc _) ?_;refine WL.cl rfl (fun w hI => zuc _ [45] (by have := zmL l zoc; omega) D hL _ hI.imm) (g [[10],[2,8,7,6,0]] ?_);refine WL.part 20 rfl (fun g20 => ?_) (fun g20 => ?_)
    · refine WL.cl rfl (fun w hI => zmq _ _) (g [[3],[1,7,6,0]] ?_);have hc1 := zmL l zoc;have hc2 := zpw (Lib.trimPrefix l zoc) [45];refine g [[2]] ?_;rcases h24 : numP (Lib.cut (Lib.trimPrefix l zoc) [45]).1 with _ | n1
      · refine WL.nf rfl (fun w hI => (Js _ (by omega) D hL _ hI.imm).no (by rw [h24]; rfl)) (g [[2]] ?_);refine WP.panicBody rfl (fun w hI => ⟨D, [], DExt.refl _ _, Inv.nil hI, .inr ⟨_, rfl, rfl, ?_, rfl⟩⟩);simp_all [znw]
      skip;refine WL.cl rfl (fun w hI => (Js _ (by omega) D hL _ hI.imm).ok (by rw [h24]; rfl)) (g [[5],[4,7,0]] ?_);rcases h31 : UA (Lib.cut (Lib.trimPrefix l zoc) [45]).2.1 [47] with _ | p
      · refine WL.nf rfl (fun w hI => (zp8 _ _ (by omega) D hL _ hI.imm).no (by rw [h31]; rfl)) (g [[1]] ?_);refine WP.panicBody rfl (fun w hI => ⟨D, [], DExt.refl _ _, Inv.nil hI, .inr ⟨_, rfl, rfl, ?_, rfl⟩⟩);simp_all [znw]
      skip;refine WL.cl rfl (fun w hI => (zp8 _ _ (by omega) D hL _ hI.imm).ok (by rw [h31]; rfl)) (g [[11]] ?_);refine WP.ret0 rfl rfl rfl  (fun w hI => ⟨_, _, DExt.refl _ _, hI, .inl ⟨_, rfl, ⟨{ x with low := n1, high := p.1, quiet := p.2 }, by simp_all [znw], H, S, hH, hS, hHn, hSn, rfl⟩⟩⟩)
    refine WL.nf rfl (fun w hI => qs _ _) (g [[2]] ?_);refine WP.panicBody rfl (fun w hI => ⟨D, [], DExt.refl _ _, Inv.nil hI, .inr ⟨_, rfl, rfl, ?_, rfl⟩⟩);simp_all [znw]
  try simp only [zq] at c11
  refine g [[1],[5,9,0,2]] ?_;refine WC.cond rfl (fun c38 => ?_) (fun c38 => ?_)
  · try simp only [zq] at c38
    obtain rfl : k = 1 := by omega
    refine g [[4,0,2]] ?_;rcases h43 : znm ztx l zo1 with _ | c
    · refine WL.nf rfl (fun w hI => (zqg _ _ hl 142 _ D _ hI.imm CaF.h (fun p hp w' hH' => zux p hp D hL w' hH')).no h43) (g [[1]] ?_);refine WP.panicBody rfl (fun w hI => ⟨D, [], DExt.refl _ _, Inv.nil hI, .inr ⟨_, rfl, rfl, ?_, rfl⟩⟩);exact (congrArg (Option.map _) h43).trans rfl
    skip;refine WL.so (SO.makes (Enters.func Tryz.call141 rfl) (fun w hI => (zqg _ _ hl 142 _ D _ hI.imm Tryz.call142 (fun p hp w' hH' => zux p hp D hL w' hH')).ok h43)) rfl ?_;rintro _ D1 _ ⟨hX1, ⟨a1, n1, c1, rfl, hS1⟩, rfl⟩;refine g [[5]] ?_;refine WP.ret0 rfl rfl rfl  (fun w hI => ⟨_, _, hX1, hI, .inl ⟨_, rfl, ⟨{ x with hours := c }, (congrArg (Option.map _) h43).trans rfl, ⟨a1, n1, c1⟩, S, hS1, hS.ext hX1, by have := zo3 h43; have := hS1.len'; show n1 ≤ _; omega, hSn, rfl⟩⟩⟩)
  try simp only [zq] at c38
  refine g [[1],[5,9,0,2]] ?_;refine WC.cond rfl (fun c46 => ?_) (fun c46 => ?_)
  · try simp only [zq] at c46
    obtain rfl : k = 2 := by omega
    refine g [[4,0,2]] ?_;rcases h51 : znm zpA l zpW with _ | c
    · refine WL.nf rfl (fun w hI => (zpO _ _ hl 147 _ D _ hI.imm CaF.h (fun p hp w' hH' => zsH p hp D hL w' hH')).no h51) (g [[1]] ?_);refine WP.panicBody rfl (fun w hI => ⟨D, [], DExt.refl _ _, Inv.nil hI, .inr ⟨_, rfl, rfl, ?_, rfl⟩⟩);exact (congrArg (Option.map _) h51).trans rfl
    skip;refine WL.so (SO.makes (Enters.func Tryz.call146 rfl) (fun w hI => (zpO _ _ hl 147 _ D _ hI.imm Tryz.call147 (fun p hp w' hH' => zsH p hp D hL w' hH')).ok h51)) rfl ?_;rintro _ D1 _ ⟨hX1, ⟨a1, n1, c1, rfl, hS1⟩, rfl⟩;refine g [[5]] ?_;refine WP.ret0 rfl rfl rfl  (fun w hI => ⟨_, _, hX1, hI, .inl ⟨_, rfl, ⟨{ x with seen := c }, (congrArg (Option.map _) h51).trans rfl, H, ⟨a1, n1, c1⟩, hH.ext hX1, hS1, hHn, by have := zo3 h51; have := hS1.len'; show n1 ≤ _; omega, rfl⟩⟩⟩)
  try simp only [zq] at c46
  obtain ⟨j, rfl⟩ : ∃ j, k = j + 3 := ⟨k - 3, by omega⟩;refine WC.ofFr [] trivial (g [[1]] ?_);refine WL.nf rfl (fun w hI => qs _ _) (g [[1]] ?_);refine WP.panicBody rfl (fun w hI => ⟨D, [], DExt.refl _ _, Inv.nil hI, .inr ⟨_, rfl, rfl, ?_, rfl⟩⟩);simp_all [znw]
end Go.Proofs.YtaiegbjgfdhgaaaGreatDoor
