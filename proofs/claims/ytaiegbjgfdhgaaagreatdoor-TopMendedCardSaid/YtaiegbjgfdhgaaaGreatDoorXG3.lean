import Derived.Shelf.Small.Wraps
import Derived.Shelf.Spec.TrailingZeros
import Derived.Shelf.Strconv.ErrVarAll
import Derived.Shelf.Strconv.Itoa0
import Derived.Shelf.Strconv.Itoa3
import Derived.Shelf.Strings.Cut
import Derived.Shelf.Strings.Prefix
import Derived.Shelf.Strings.SlTrimAscii
import Derived.Shelf.Strings.Split
import Derived.Shelf.Lays7
import Derived.Shelf.LaysM
import Derived.Shelf.LaysC
import Derived.Test.YtaiegbjgfdhgaaaGreatDoorProg
import Derived.Lib.ItoaNum
import Derived.Lib.AtoiAll
import Derived.Lib.IndexMore
import Derived.Lib.SlTrimSet
import Derived.Lib.SplitLaws
import Derived.Lib.Strings
import Derived.Test.YtaiegbjgfdhgaaaGreatDoorXG0
import Derived.Test.YtaiegbjgfdhgaaaGreatDoorRows
import Derived.Test.YtaiegbjgfdhgaaaGreatDoorXG2
set_option linter.all false
set_option maxRecDepth 100000
set_option maxHeartbeats 4000000
attribute [local irreducible] Go.W.WL Go.W.WLF Go.W.WC Go.W.WCF Go.W.WP Go.W.WA Go.W.WQ Go.W.WH Go.W.WHo Go.W.WCn Go.W.Yd Go.W.Qt Go.W.SO Go.Code.wp Go.Code.wpIn
namespace Go.Proofs.YtaiegbjgfdhgaaaGreatDoor
open Go.Shelf
def ZK : Go.Shelf.Ren := ⟨fun | 171 => 184 | 243 => 215 | 246 => 240 | 283 => 259 | 284 => 260 | 285 => 261 | 286 => 262 | 129 => 214 | 317 => 270 | 318 => 271 | 319 => 272 | 320 => 238 | 337 => 258 | 338 => 213 | n => n, fun | 3 => 3 | 9 => 9 | 2 => 2 | 4 => 4 | 171 => 409 | 0 => 0 | 53 => 191 | 37 => 27 | 5 => 5 | 173 => 411 | 212 => 424 | 51 => 267 | 20 => 20 | 213 => 425 | 46 => 96 | 232 => 422 | 233 => 395 | n => n, fun | 17 => 6 | 18 => 5 | 19 => 1 | n => n⟩
theorem Jg : Go.Proofs.LaysM.n171 Tryz.prog ZK := {
  mixed := by kernel_rfl
  f129 := Tryz.func214.trans (congrArg some (by kernel_rfl))
  f171 := Tryz.func184.trans (congrArg some (by kernel_rfl))
  f243 := Tryz.func215.trans (congrArg some (by kernel_rfl))
  f246 := Tryz.func240.trans (congrArg some (by kernel_rfl))
  f283 := Tryz.func259.trans (congrArg some (by kernel_rfl))
  f284 := Tryz.func260.trans (congrArg some (by kernel_rfl))
  f285 := Tryz.func261.trans (congrArg some (by kernel_rfl))
  f286 := Tryz.func262.trans (congrArg some (by kernel_rfl))
  f317 := Tryz.func270.trans (congrArg some (by kernel_rfl))
  f318 := Tryz.func271.trans (congrArg some (by kernel_rfl))
  f319 := Tryz.func272.trans (congrArg some (by kernel_rfl))
  f320 := Tryz.func238.trans (congrArg some (by kernel_rfl))
  f337 := Tryz.func258.trans (congrArg some (by kernel_rfl))
  f338 := Tryz.func213.trans (congrArg some (by kernel_rfl))
  t0 := Tryz.underlying0
  a0 := Tryz.isAgg0
  z0 := Tryz.sizeOf0
  v0 := Tryz.zeroValue0
  t2 := Tryz.underlying2
  a2 := Tryz.isAgg2
  z2 := Tryz.sizeOf2
  v2 := Tryz.zeroValue2
  t3 := Tryz.underlying3
  a3 := Tryz.isAgg3
  z3 := Tryz.sizeOf3
  v3 := Tryz.zeroValue3
  t4 := Tryz.underlying4
  a4 := Tryz.isAgg4
  z4 := Tryz.sizeOf4
  v4 := Tryz.zeroValue4
  t5 := Tryz.underlying5
  a5 := Tryz.isAgg5
  z5 := Tryz.sizeOf5
  v5 := Tryz.zeroValue5
  t9 := Tryz.underlying9
  a9 := Tryz.isAgg9
  z9 := Tryz.sizeOf9
  v9 := Tryz.zeroValue9
  t20 := Tryz.underlying20
  a20 := Tryz.isAgg20
  z20 := Tryz.sizeOf20
  v20 := Tryz.zeroValue20
  t37 := Tryz.underlying27
  a37 := Tryz.isAgg27
  z37 := Tryz.sizeOf27
  v37 := Tryz.zeroValue27
  t46 := Tryz.underlying96
  a46 := Tryz.isAgg96
  z46 := Tryz.sizeOf96
  v46 := Tryz.zeroValue96
  t51 := Tryz.underlying267
  a51 := Tryz.isAgg267
  z51 := Tryz.sizeOf267
  v51 := Tryz.zeroValue267
  t53 := Tryz.underlying191
  a53 := Tryz.isAgg191
  z53 := Tryz.sizeOf191
  v53 := Tryz.zeroValue191
  t171 := Tryz.underlying409
  a171 := Tryz.isAgg409
  z171 := Tryz.sizeOf409
  v171 := Tryz.zeroValue409
  t173 := Tryz.underlying411
  a173 := Tryz.isAgg411
  z173 := Tryz.sizeOf411
  v173 := Tryz.zeroValue411
  t212 := Tryz.underlying424
  a212 := Tryz.isAgg424
  z212 := Tryz.sizeOf424
  v212 := Tryz.zeroValue424
  t213 := Tryz.underlying425
  a213 := Tryz.isAgg425
  z213 := Tryz.sizeOf425
  t232 := Tryz.underlying422
  a232 := Tryz.isAgg422
  z232 := Tryz.sizeOf422
  v232 := Tryz.zeroValue422
  t233 := Tryz.underlying395
  a233 := Tryz.isAgg395
  z233 := Tryz.sizeOf395
  v233 := Tryz.zeroValue395
  g17 := by kernel_rfl
  g18 := by kernel_rfl
  g19 := by kernel_rfl
  i0 := by kernel_rfl
  i2 := by kernel_rfl
  i3 := by kernel_rfl
  i4 := by kernel_rfl
  i5 := by kernel_rfl
  i9 := by kernel_rfl
  i20 := by kernel_rfl
  i37 := by kernel_rfl
  i46 := by kernel_rfl
  i51 := by kernel_rfl
  i53 := by kernel_rfl
  i171 := by kernel_rfl
  i173 := by kernel_rfl
  i212 := by kernel_rfl
  i232 := by kernel_rfl
  i233 := by kernel_rfl
  m17 := by kernel_rfl
  m18 := by kernel_rfl
  m19 := by kernel_rfl }
def YH : Go.Shelf.Ren := ⟨fun | 29 => 213 | n => n, fun | 22 => 191 | 3 => 3 | 4 => 4 | 25 => 96 | 54 => 395 | 0 => 0 | 5 => 5 | n => n, fun | 1 => 1 | n => n⟩
theorem zaz : Go.Proofs.Lays7.n29 Tryz.prog YH := {
  mixed := by kernel_rfl
  f29 := Tryz.func213.trans (congrArg some (by kernel_rfl))
  t0 := Tryz.underlying0
  a0 := Tryz.isAgg0
  z0 := Tryz.sizeOf0
  v0 := Tryz.zeroValue0
  i0 := by kernel_rfl
  t3 := Tryz.underlying3
  a3 := Tryz.isAgg3
  z3 := Tryz.sizeOf3
  v3 := Tryz.zeroValue3
  i3 := by kernel_rfl
  t4 := Tryz.underlying4
  a4 := Tryz.isAgg4
  z4 := Tryz.sizeOf4
  v4 := Tryz.zeroValue4
  i4 := by kernel_rfl
  t5 := Tryz.underlying5
  a5 := Tryz.isAgg5
  z5 := Tryz.sizeOf5
  v5 := Tryz.zeroValue5
  i5 := by kernel_rfl
  t22 := Tryz.underlying191
  a22 := Tryz.isAgg191
  z22 := Tryz.sizeOf191
  v22 := Tryz.zeroValue191
  i22 := by kernel_rfl
  t25 := Tryz.underlying96
  a25 := Tryz.isAgg96
  z25 := Tryz.sizeOf96
  v25 := Tryz.zeroValue96
  i25 := by kernel_rfl
  t54 := Tryz.underlying395
  a54 := Tryz.isAgg395
  z54 := Tryz.sizeOf395
  g1 := by kernel_rfl }
def YF : Go.Shelf.Ren := ⟨fun | 129 => 214 | n => n, fun | 53 => 191 | 3 => 3 | 4 => 4 | 46 => 96 | 5 => 5 | 9 => 9 | n => n, fun | n => n⟩
theorem zax : Go.Proofs.Lays.n129 Tryz.prog YF := {
  mixed := by kernel_rfl
  f129 := Tryz.func214.trans (congrArg some (by kernel_rfl))
  t3 := Tryz.underlying3
  a3 := Tryz.isAgg3
  z3 := Tryz.sizeOf3
  v3 := Tryz.zeroValue3
  t4 := Tryz.underlying4
  a4 := Tryz.isAgg4
  z4 := Tryz.sizeOf4
  v4 := Tryz.zeroValue4
  t5 := Tryz.underlying5
  a5 := Tryz.isAgg5
  z5 := Tryz.sizeOf5
  v5 := Tryz.zeroValue5
  t9 := Tryz.underlying9
  a9 := Tryz.isAgg9
  z9 := Tryz.sizeOf9
  v9 := Tryz.zeroValue9
  t46 := Tryz.underlying96
  a46 := Tryz.isAgg96
  z46 := Tryz.sizeOf96
  v46 := Tryz.zeroValue96
  t53 := Tryz.underlying191
  a53 := Tryz.isAgg191
  z53 := Tryz.sizeOf191
  v53 := Tryz.zeroValue191 }
end Go.Proofs.YtaiegbjgfdhgaaaGreatDoor
namespace Go.Bk
abbrev Bs := List UInt8
structure Sp where
  lo : Int
  hi : Int
deriving DecidableEq, Inhabited
structure Hut where
  floor : Int
  brake : Int
  row : Int
deriving DecidableEq, Inhabited
structure Surf where
  rows : Int
  step : Int
  water : List Sp
  waves : List Sp
  huts : List Hut
deriving DecidableEq, Inhabited
structure zqS where
  wind : Sp
  thunder : Int
deriving DecidableEq, Inhabited
structure zwB where
  hour : Int
  up : Bool
deriving DecidableEq, Inhabited
structure Flag where
  low : Int
  high : Int
  quiet : Int
  hours : List zqS
  seen : List zwB
deriving DecidableEq, Inhabited
structure zms where
  minute : Int
  cols : Sp
  rows : Sp
deriving DecidableEq, Inhabited
structure xb where
  wide : Int
  deep : Int
  speed : Int
  last : Int
  seen : List (List zms)
deriving DecidableEq, Inhabited
def inB (n lo hi : Int) : Bool := decide (lo ≤ n ∧ n ≤ hi)
def spB (s : Sp) (lo hi : Int) : Bool := decide (lo ≤ s.lo ∧ s.lo ≤ s.hi ∧ s.hi ≤ hi)
def ZP (s : Sp) (hi : Int) : Bool := spB s 0 hi && decide (s.hi - s.lo ≤ 3)
def hutB (rows : Int) (h : Hut) : Bool := inB h.floor 0 40 && inB h.brake 0 10 && inB h.row 0 (rows - 1)
def zsB (s : Surf) : Bool := inB s.rows 1 6 && inB s.step 0 4 && decide (s.water.length ≤ 8) && decide (s.waves.length = s.water.length) && decide (s.huts.length ≤ 5)
  && s.water.all (ZP · 30) && s.waves.all (ZP · 10) && s.huts.all (hutB s.rows)
def zxD (h : zqS) : Bool := spB h.wind 0 12 && inB h.thunder 0 2
def ztg (f : Flag) : Bool := decide (1 ≤ f.low ∧ f.low ≤ f.high ∧ f.high ≤ 12) && inB f.quiet 1 4 && decide (f.hours.length ≤ 9) && decide (f.seen.length ≤ 8)
  && f.hours.all zxD && f.seen.all fun s => inB s.hour 0 ((f.hours.length : Int) - 1)
def rowB (b : xb) : Int → List zms → Bool
  | _, [] => true
  | m, s :: l => inB s.minute m b.last && spB s.cols 0 (b.wide - 1) && spB s.rows 0 (b.deep - 1) && rowB b s.minute l
def zmP (b : xb) : Bool := inB b.wide 1 8 && inB b.deep 1 6 && inB b.speed 0 3 && inB b.last 0 12 && decide (b.seen.length ≤ 4)
  && b.seen.all fun l => decide (l.length ≤ 5) && rowB b 0 l
abbrev num (n : Int) : Bs := Lib.itoa n
def two (n : Int) : Bs := if n < 10 then 32 :: num n else num n
def unl (ls : List Bs) : Bs := ls.flatMap (· ++ [10])
def zph : Bs := [98, 111, 97, 116, 115]
def zoK : Bs := [98, 111, 97, 116]
def colT (x : Sp) : Bs := 32 :: (two x.lo ++ 45 :: two x.hi)
def vX (s : Sp) : Bs := if s.lo = s.hi then num s.lo else num s.lo ++ 46 :: 46 :: num s.hi
def behind {α : Type} (w : Bs) (f : α → Bs) (l : List α) : Bs := w ++ l.flatMap fun x => 32 :: f x
def zmY (s : zms) : Bs := num s.minute ++ 64 :: (vX s.cols ++ 44 :: vX s.rows)
def zqi (b : xb) : Bs := zph ++ 32 :: (num b.wide ++ 120 :: (num b.deep ++ 32 :: 118 :: (num b.speed ++ 32 :: 116 :: num b.last)))
def zug (b : xb) : List Bs := zqi b :: b.seen.map (behind zoK zmY)
def zn8 (b : xb) : Bs := unl (zug b)
def small (k : Nat) : Bs := if k < 10 then [UInt8.ofNat (48 + k)] else [UInt8.ofNat (48 + k / 10), UInt8.ofNat (48 + k % 10)]
theorem zs5 {k : Nat} (h : k < 100) : num (k : Int) = small k := by
  have h0 : ¬ (k : Int) < 0 := by omega
  unfold num Lib.itoa small;rw [if_neg h0, Int.toNat_natCast];by_cases h1 : k < 10
  · rw [if_pos h1, Lib.decDigits_one h1]
  · rw [if_neg h1, Lib.decDigits_two h1 h]
def zmT (n : Int) : Prop := 0 ≤ n ∧ n < 100
theorem zmT.nat {n : Int} (h : zmT n) : ∃ k : Nat, k < 100 ∧ n = (k : Int) ∧ num n = small k :=
  ⟨n.toNat, by have := h.1; have := h.2; omega, by have := h.1; omega, by
    have h1 := h.1; have h2 := h.2;rw [← zs5 (by omega)];congr 1; omega⟩
def dig (b : UInt8) : Bool := decide (48 ≤ b.toNat ∧ b.toNat ≤ 57)
theorem zsu : ∀ k : Fin 100, 1 ≤ (small k.val).length ∧ (small k.val).length ≤ 2 := by decide +kernel
theorem zn5 {n : Int} (h : zmT n) : 1 ≤ (num n).length ∧ (num n).length ≤ 2 := by
  obtain ⟨k, hk, _, e⟩ := h.nat;rw [e];exact zsu ⟨k, hk⟩
theorem zp7 {n : Int} (h : zmT n) : (two n).length = 2 := by
  obtain ⟨k, hk, rfl, e⟩ := h.nat;unfold two;rw [e];unfold small;by_cases h1 : k < 10
  · rw [if_pos (by omega), if_pos h1]; rfl
  · rw [if_neg (by omega), if_neg h1]; rfl
def flat (l : Bs) : Prop := (10 : UInt8) ∉ l
theorem zuc (l : Bs) (ls : List Bs) : unl (l :: ls) = l ++ 10 :: unl ls := by simp [unl]
def lnsB : Bs → Bs → List Bs
  | acc, [] => if acc = [] then [] else [acc]
  | acc, c :: r => if c = 10 then (acc ++ [10]) :: lnsB [] r else lnsB (acc ++ [c]) r
def lns (s : Bs) : List Bs := (lnsB [] s).map fun l => Lib.trimSuffix l [10]
structure SpOk (s : Sp) (hi : Int) : Prop where
  lo : 0 ≤ s.lo
  le : s.lo ≤ s.hi
  hi : s.hi ≤ hi
theorem zmU {s : Sp} {lo hi : Int} : spB s lo hi = true ↔ lo ≤ s.lo ∧ s.lo ≤ s.hi ∧ s.hi ≤ hi := by simp [spB]
theorem znf {n lo hi : Int} : inB n lo hi = true ↔ lo ≤ n ∧ n ≤ hi := by simp [inB]
def znw (s : Sp) : Prop := zmT s.lo ∧ zmT s.hi
theorem zsv {s : Sp} {hi : Int} (h : spB s 0 hi = true) (hh : hi < 100) : znw s := by
  rw [zmU] at h;exact ⟨⟨by omega, by omega⟩, ⟨by omega, by omega⟩⟩
structure zmq (s : Surf) : Prop where
  rows : 1 ≤ s.rows ∧ s.rows ≤ 6
  step : 0 ≤ s.step ∧ s.step ≤ 4
  nwater : s.water.length ≤ 8
  same : s.waves.length = s.water.length
  nhuts : s.huts.length ≤ 5
  water : ∀ x ∈ s.water, spB x 0 30 = true ∧ x.hi - x.lo ≤ 3
  waves : ∀ x ∈ s.waves, spB x 0 10 = true ∧ x.hi - x.lo ≤ 3
  huts : ∀ h ∈ s.huts, (0 ≤ h.floor ∧ h.floor ≤ 40) ∧ (0 ≤ h.brake ∧ h.brake ≤ 10) ∧ 0 ≤ h.row ∧ h.row ≤ s.rows - 1
theorem zpJ {s : Surf} : zsB s = true ↔ zmq s := by
  simp only [zsB, hutB, ZP, inB, Bool.and_eq_true, List.all_eq_true, decide_eq_true_eq];constructor
  · rintro ⟨⟨⟨⟨⟨⟨⟨a, b⟩, c⟩, d⟩, e⟩, f⟩, g⟩, h⟩;exact ⟨a, b, c, d, e, f, g, fun x hx => ⟨(h x hx).1.1, (h x hx).1.2, (h x hx).2⟩⟩
  · rintro ⟨a, b, c, d, e, f, g, h⟩;exact ⟨⟨⟨⟨⟨⟨⟨a, b⟩, c⟩, d⟩, e⟩, f⟩, g⟩, fun x hx => ⟨⟨(h x hx).1, (h x hx).2.1⟩, (h x hx).2.2⟩⟩
structure K5 (f : Flag) : Prop where
  low : 1 ≤ f.low ∧ f.low ≤ f.high ∧ f.high ≤ 12
  quiet : 1 ≤ f.quiet ∧ f.quiet ≤ 4
  nhours : f.hours.length ≤ 9
  nseen : f.seen.length ≤ 8
  hours : ∀ h ∈ f.hours, spB h.wind 0 12 = true ∧ 0 ≤ h.thunder ∧ h.thunder ≤ 2
  seen : ∀ s ∈ f.seen, 0 ≤ s.hour ∧ s.hour ≤ (f.hours.length : Int) - 1
theorem zpl {f : Flag} : ztg f = true ↔ K5 f := by
  simp only [ztg, zxD, inB, Bool.and_eq_true, List.all_eq_true, decide_eq_true_eq];constructor
  · rintro ⟨⟨⟨⟨⟨a, b⟩, c⟩, d⟩, e⟩, f⟩;exact ⟨a, b, c, d, e, f⟩
  · rintro ⟨a, b, c, d, e, f⟩;exact ⟨⟨⟨⟨⟨a, b⟩, c⟩, d⟩, e⟩, f⟩
structure znN (b : xb) (s : zms) : Prop where
  minute : 0 ≤ s.minute ∧ s.minute ≤ b.last
  cols : spB s.cols 0 (b.wide - 1) = true
  rows : spB s.rows 0 (b.deep - 1) = true
theorem zq6 {b : xb} : ∀ (l : List zms) (m : Int), 0 ≤ m → rowB b m l = true → ∀ s ∈ l, znN b s
  | [], _, _, _ => by simp
  | s :: l, m, hm, h => by
    simp only [rowB, inB, Bool.and_eq_true, decide_eq_true_eq] at h;obtain ⟨⟨⟨h1, h2⟩, h3⟩, h4⟩ := h;intro x hx;rcases List.mem_cons.1 hx with rfl | hx
    · exact ⟨⟨by omega, h1.2⟩, h2, h3⟩
    · exact zq6 l s.minute (by omega) h4 x hx
structure xv (b : xb) : Prop where
  wide : 1 ≤ b.wide ∧ b.wide ≤ 8
  deep : 1 ≤ b.deep ∧ b.deep ≤ 6
  speed : 0 ≤ b.speed ∧ b.speed ≤ 3
  last : 0 ≤ b.last ∧ b.last ≤ 12
  n : b.seen.length ≤ 4
  rows : ∀ l ∈ b.seen, l.length ≤ 5 ∧ rowB b 0 l = true
theorem znT {b : xb} : zmP b = true ↔ xv b := by
  simp only [zmP, inB, Bool.and_eq_true, List.all_eq_true, decide_eq_true_eq];constructor
  · rintro ⟨⟨⟨⟨⟨a, b⟩, c⟩, d⟩, e⟩, f⟩;exact ⟨a, b, c, d, e, f⟩
  · rintro ⟨a, b, c, d, e, f⟩;exact ⟨⟨⟨⟨⟨a, b⟩, c⟩, d⟩, e⟩, f⟩
theorem xv.sn {b : xb} (h : xv b) {l : List zms} (hl : l ∈ b.seen) {s : zms} (hs : s ∈ l) : znN b s := zq6 l 0 (Int.le_refl _) (h.rows l hl).2 s hs
theorem zt3 {b : xb} (h : xv b) {s : zms} (hs : znN b s) : zmT s.minute ∧ znw s.cols ∧ znw s.rows := by
  have h1 := h.wide; have h2 := h.deep; have h4 := h.last; have := hs.minute;exact ⟨⟨by omega, by omega⟩, zsv hs.cols (by omega), zsv hs.rows (by omega)⟩
end Go.Bk
namespace Go.Bk
theorem zt8 {x : Sp} (h : znw x) : (colT x).length = 6 := by
  unfold colT;simp [zp7 h.1, zp7 h.2]
def zvk {X : Type} (take : X → Nat → Bs → Option X) : X → Nat → List Bs → Option X
  | x, _, [] => some x
  | x, k, l :: ls => match take x k l with
    | none => none
    | some y => zvk take y (k + 1) ls
def zo3 {X : Type} (z : X) (take : X → Nat → Bs → Option X) (is : X → Bool) (put : X → Bs) (s : Bs) : X × Int :=
  if 1200 < s.length then (z, 3) else match zvk take z 0 (lns s) with
    | none => (z, 8)
    | some x => if is x = true ∧ put x = s then (x, 0) else (z, 8)
def zu7 : Surf := ⟨0, 0, [], [], []⟩
def zvf : Flag := ⟨0, 0, 0, [], []⟩
def zrl : xb := ⟨0, 0, 0, 0, []⟩
section
variable {X : Type} {z : X} {take : X → Nat → Bs → Option X} {is : X → Bool} {put : X → Bs} {s : Bs}
include X z take is put s
theorem ztU {x : X} (h : zo3 z take is put s = (x, 0)) : is x = true ∧ put x = s ∧ s.length ≤ 1200 := by
  unfold zo3 at h;split at h
  · cases h
  · split at h
    · cases h
    · split at h
      · rename_i hl _ _ _ hc
        cases h
        exact ⟨hc.1, hc.2, by omega⟩
      · cases h
theorem ztT (h : (zo3 z take is put s).2 ≠ 0) : zo3 z take is put s = (z, if 1200 < s.length then 3 else 8) := by
  unfold zo3 at h ⊢;split
  · rfl
  · split
    · rfl
    · split
      · rename_i hl _ _ e hc
        rw [if_neg hl, e] at h;simp only [hc, and_self, if_true] at h;exact absurd rfl h
      · rfl
theorem zsl (h : (zo3 z take is put s).2 = 0) : ∃ x, zo3 z take is put s = (x, 0) := ⟨(zo3 z take is put s).1, Prod.ext rfl h⟩
end
end Go.Bk
namespace Go.Bk
def Stop (t : Bs) : Prop := ∀ c r, t = c :: r → dig c = false
end Go.Bk
namespace Go.Proofs.YtaiegbjgfdhgaaaGreatDoor
open Go.W Go.Bk
theorem zdj {P : Program} {name : String} {w : World} {n : Nat} {cs : Array Value} {t : TypeId} {fz : Nat × Nat} (hg : P.globalNamed name = some n) (h : w.heap[n]? = some (.cells cs t fz)) : w.var? P name = some cs := by
  unfold World.var?;rw [hg];simp [h]
structure LibD (kM : Bool) (D : Imm) : Prop where
  marks : kM = true → ∃ t fz, D 0 = some (.cells (List.toArray [st [], st [63], st [33]]) t fz)
  maxLen : ∃ (m : Int) (r : List Value) (t : TypeId) (fz : Nat × Nat), D 2 = some (.cells (List.toArray (it m :: r)) t fz)
  syn : ∃ (tp : TypeId) (p : Value) (t : TypeId) (fz : Nat × Nat), D 3 = some (.cells (List.toArray [.iface tp p]) t fz)
  rng : ∃ (tp : TypeId) (p : Value) (t : TypeId) (fz : Nat × Nat), D 4 = some (.cells (List.toArray [.iface tp p]) t fz)
  pow : ∃ t fz, D 6 = some (.cells (Lib.pow10Tab.map fun z => Value.int .u64 z).toArray t fz)
theorem LibD.ext {kM : Bool} {w : World} {D D' : Imm} (hD : DExt w D D') (h : LibD kM D) : LibD kM D' :=
  ⟨fun hk => let ⟨t, fz, e⟩ := h.marks hk; ⟨t, fz, hD.old _ _ e⟩, let ⟨m, r, t, fz, e⟩ := h.maxLen; ⟨m, r, t, fz, hD.old _ _ e⟩, let ⟨a, b, t, fz, e⟩ := h.syn; ⟨a, b, t, fz, hD.old _ _ e⟩, let ⟨a, b, t, fz, e⟩ := h.rng; ⟨a, b, t, fz, hD.old _ _ e⟩, let ⟨t, fz, e⟩ := h.pow; ⟨t, fz, hD.old _ _ e⟩⟩
theorem LibD.max {kM : Bool} {D : Imm} (h : LibD kM D) {w : World} (hH : Holds D w) : ∃ m : Int, w.cell? ⟨2, 0, none⟩ = some (.int .i64 m) := by
  obtain ⟨m, r, t, fz, e⟩ := h.maxLen;exact ⟨m, by have := hH _ _ e; simp [World.cell?, this]⟩
def i64B (n : Int) : Prop := -9223372036854775808 ≤ n ∧ n ≤ 9223372036854775807
theorem Xw (n : Int) (hn : i64B n) (D : Imm) {kM : Bool} (hL : LibD kM D) (w : World) (hH : Holds D w) : z8 Tryz.prog 184 [it n] w (st (num n)) := by
  obtain ⟨t, fz, e⟩ := hL.pow;exact (Any.strconv_Itoa Jg n hn.1 hn.2 w (zdj zk (hH _ _ e))).mono fun e' w' ⟨h1, k, os, h2⟩ => ⟨h1, h2 ▸ Keep.grow w k os⟩
def zpI (e : Int) : List PanicEntry := [{ v := .iface 207 (it e), recovered := false }]
theorem zmK (e : Int) (w : World) : z8 Tryz.prog 40 [.bool true, it e] w (.tuple #[]) := by
  unfold z8;refine en Tryz.func40 rfl Tryz.ntmps40 zI (g [[1],[7,0,1]] ?_);refine WP.ret0 rfl rfl rfl  (fun w hI => ⟨rfl, hI.keep⟩)
theorem zmw (e : Int) (w : World) : xC Tryz.prog 40 [.bool false, it e] w (zpI e) := by
  unfold xC;refine en Tryz.func40 rfl Tryz.ntmps40 zI (g [[1],[6,0,1],[3,1]] ?_);refine WL.no (SO.panic rfl ?_);refine WP.panicBody rfl (fun w hI => ⟨rfl, hI.keep⟩)
theorem zmv (b : Nat) (w : World) : Idle Tryz.prog 39 [pt b] w := by
  refine callsD_of_wpS Tryz.func39 rfl fun c₀ cs hu => wpS_seq ?_;apply wpS_region;simp [wpOpsS, go_sem, recoverD, hu, Tryz.ntmps39]
  show Code.wpS _ _ _ _ _ _;refine wpS_of_wp (WC.start (x := ⟨19, [], [], w⟩) (fr := [(0, pt b), (2, .nilIface)]) (D := fun _ => none) (hp := []) ?_ ?_)
  · exact ⟨⟨by simp, rfl, zmH ⟨by simp, by simp, trivial⟩⟩, (Inv.start (by intro _ _ h; cases h))⟩
  refine g [[1],[2,0,2]] ?_;refine WL.yd (Yd.neqNilNil UnF.h rfl) rfl (g [[4]] ?_);exact WP.mk fun a w' hA => ⟨hA.f.defers, .returning, by cases c₀; simp only at hu; subst hu; rfl, .tuple #[], by simp [results, Tryz.results39], ⟨_, rfl⟩, rfl, hA.i.keep⟩
theorem qa (b : Nat) (e v0 : Int) (t : TypeId) (w : World) (hb : w.heap[b]? = some (.cells (List.toArray [it v0]) t (0, 0))) : uw Tryz.prog 39 [pt b] (.iface 207 (it e)) b (.cells (List.toArray [it e]) t (0, 0)) w := by
  refine callsD_of_wpS Tryz.func39 rfl fun c₀ cs hu => wpS_seq ?_;apply wpS_region;simp [wpOpsS, go_sem, recoverD, hu, Tryz.ntmps39]
  show Code.wpS _ _ _ _ _ _;refine wpS_of_wp (WC.start (x := ⟨19, [], [b], w⟩) (fr := [(0, pt b), (2, .iface 207 (it e))]) (D := fun _ => none) (hp := [(b, .cells (List.toArray [it v0]) t (0, 0))]) ?_ ?_)
  · exact ⟨⟨by simp, rfl, zmH ⟨by simp, by simp, trivial⟩⟩, (Inv.one hb)⟩
  refine g [[1],[2,0,2]] ?_;refine WL.yd (Yd.neqNil UnF.h rfl) rfl (g [[4],[2,0,2]] ?_);refine WL.yd (Yd.assert UnF.h (by intro _ h; cases h) rfl) rfl (g [[9],[8,4,3,0,2],[6,3,0]] ?_);exact WP.mk fun a w' hA => ⟨hA.f.defers, .panicking [{ v := .iface 207 (it e), recovered := true }], rfl, .tuple #[], by simp [results, Tryz.results39], ⟨_, rfl⟩, rfl, hA.i.keep, hA.i.own _ _ (List.mem_of_getElem? (i := 0) rfl)⟩
inductive Part where
  | s (l : Bs)
  | i (n : Int)
  | c (n : Int)
  | p (x : Sp)
instance : Inhabited Part := ⟨.s []⟩
def zaY : Part → Value
  | .s l => .iface 9 (st l)
  | .i n => .iface 3 (it n)
  | .c n => .iface 225 (it n)
  | .p x => .iface 81 (.agg #[it x.lo, it x.hi])
def zn7 : Part → Bs
  | .s l => l
  | .i n => num n
  | .c n => two n
  | .p x => vX x
def zmE : Part → Prop
  | .s l => l.length ≤ 10000
  | .i n => i64B n
  | .c n => i64B n
  | .p x => i64B x.lo ∧ i64B x.hi
def zsa : Part → Prop
  | .s _ => True
  | .i _ => True
  | _ => False
def zpB (p : Part) : List Value := [zaY p]
def zmC (ps : List Part) : Bs := ps.flatMap zn7
theorem zo0 : ∀ (k u : Nat), u < 10 ^ (k + 1) → Lib.nDigits u ≤ k + 1
  | 0, u, h => by rw [Lib.nDigits_small (by simpa using h)]; omega
  | k + 1, u, h => by
    by_cases hu : u < 10
    · rw [Lib.nDigits_small hu]; omega
    rw [Lib.nDigits_big hu];have := zo0 k (u / 10) (by rw [Nat.pow_succ] at h; omega);omega
theorem zni {n : Int} (h : i64B n) : (num n).length ≤ 20 := by
  unfold num Lib.itoa;obtain ⟨h1, h2⟩ := h;split
  · have := zo0 18 n.natAbs (by omega);rw [List.length_cons, Lib.decDigits_length]; omega
  have := zo0 18 n.toNat (by omega);rw [Lib.decDigits_length]; omega
theorem zsb {p : Part} (h : zmE p) : (zn7 p).length ≤ 10000 := by
  cases p with
  | s l => exact h
  | i n => have := zni h; simp only [zn7]; omega
  | c n => have := zni h; simp only [zn7, two]; split <;> simp <;> omega
  | p x =>
    have h1 := zni h.1; have h2 := zni h.2;simp only [zn7, vX]; split
    · omega
    simp; omega
theorem zog : ∀ (ps : List Part), (∀ p ∈ ps, zmE p) → (zmC ps).length ≤ ps.length * 10000
  | [], _ => by simp [zmC]
  | p :: ps, h => by
    have h1 := zsb (h p (by simp)); have h2 := zog ps fun q hq => h q (by simp [hq]);simp only [zmC, List.flatMap_cons, List.length_append, List.length_cons] at h2 ⊢;omega
theorem k5 {α : Type} [Inhabited α] {l : List α} {i : Nat} (h : i < l.length) : gt l i ∈ l := by
  have : gt l i = l[i] := by simp [gt, List.getD, h]
  rw [this]; exact List.getElem_mem h
theorem zmy {ps : List Part} {k : Nat} {p : Part} (hg : gt ps k = p) (hk : k < ps.length) : zmC (ps.take (k + 1)) = zmC (ps.take k) ++ zn7 p := by
  have : gt ps k = ps[k] := by simp [gt, List.getD, hk]
  unfold zmC;rw [List.take_succ_eq_append_getElem hk, List.flatMap_append, ← this, hg];simp
section
variable (ps : List Part) (a : Option Addr) (n c : Nat) (D : Imm) {kM : Bool} (hL : LibD kM D) (hS : SlL D 1 (ps.map zpB) a n) (hps : ∀ p ∈ ps, zmE p)
include ps a n c D kM hL hS hps
theorem zoW (h0 : ∀ p ∈ ps, zsa p) (hn : ps.length ≤ 20) (w : World) (hH : Holds D w) : z8 Tryz.prog 130 [.slice a n c] w (st (zmC ps)) := by
  unfold z8;obtain rfl : n = ps.length := by have := hS.len'; exact this
  refine en Tryz.func130 rfl Tryz.ntmps130 (Inv.start hH) (g [[1],[5,0],[6,2,0],[7,3,2,0]] ?_);refine WC.loopF (fun k : Nat => [(3, st (zmC (ps.take k))), (10, .slice a ps.length c), (11, nt ps.length), (12, nt k)]) (fun k => k ≤ ps.length) (fun k => ps.length - k) 0 (Nat.zero_le _) ⟨rfl, rfl, rfl, rfl, trivial⟩ ?_;intro k hk;have hjl := zog (ps.take k) (fun p hp => hps p (List.mem_of_mem_take hp));rw [List.length_take] at hjl;have hjm : min k ps.length ≤ 20 := by omega
  refine g [[1],[5,3,10,11,12]] ?_;refine WC.cond rfl (fun c13 => ?_) (fun c13 => ?_)
  · try simp only [zq] at c13
    have hkl : k < ps.length := by omega
    refine g [[5],[1,3,10,11,12]] ?_;refine WL.yd (Yd.ix rfl rfl (hS.addr k (by omega))) rfl (WL.yd (Yd.l1 rfl ((hS.at k (by omega)).rd 0 rfl)) rfl (g [[4]] ?_));generalize hg : gt ps k = pk;have hok : zmE pk := hg ▸ hps _ (k5 hkl);rcases pk with l | n | n | x
    · have hl1 : l.length ≤ 10000 := hok;refine g [[1,5,3,10,11,12]] ?_;skip;refine g [[5],[1,16,3,10,11,12]] ?_;refine WL.yd (Yd.assert UnF.h (by intro _ h; cases h) rfl) rfl (g [[6],[4,19,3,10,11,12],[3,6,3,10,11,12]] ?_);refine WL.yd (Yd.addS rfl rfl (by (try simp only [List.length_append, List.length_cons, List.length_nil]); omega)) rfl (g [[5],[4,3,10,11,12]] ?_);exact WP.againF (k + 1) hkl (by omega) ⟨by show some (st _) = some (st _); rw [zmy hg hkl]; simp_all [zn7, two, vX, zmC], rfl, rfl, rfl, trivial⟩ (fun _ h => nomatch h) (fun _ => List.nodup_nil)
    · have hl1 : (num n).length ≤ 20 := zni hok;refine g [[1,5,3,10,11,12]] ?_;skip;refine g [[5],[1,16,3,10,11,12]] ?_;refine WL.yd (Yd.assertNo UnF.h (by intro _ h; cases h) ZvF.h rfl rfl) rfl (g [[6],[1,16,3,10,11,12]] ?_);refine WL.yd (Yd.assert UnF.h (by intro _ h; cases h) rfl) rfl (g [[6],[4,25,3,10,11,12],[3,7,3,10,11,12]] ?_);refine WL.cl rfl (fun w hI => Xw _ hok D hL _ hI.imm) ?_;refine WL.yd (Yd.addS rfl rfl (by (try simp only [List.length_append, List.length_cons, List.length_nil]); omega)) rfl (g [[5],[4,3,10,11,12]] ?_);exact WP.againF (k + 1) hkl (by omega) ⟨by show some (st _) = some (st _); rw [zmy hg hkl]; simp_all [zn7, two, vX, zmC], rfl, rfl, rfl, trivial⟩ (fun _ h => nomatch h) (fun _ => List.nodup_nil)
    · exact ((by have := h0 _ (k5 hkl); rw [hg] at this; exact this : False)).elim
    exact ((by have := h0 _ (k5 hkl); rw [hg] at this; exact this : False)).elim
  try simp only [zq] at c13
  obtain rfl : k = ps.length := by omega
  refine g [[6],[6,3]] ?_;refine WP.ret1 rfl rfl rfl (RV.tmp rfl) (fun w hI => ⟨by rw [List.take_length], hI.keep⟩)
theorem Kt (hn : ps.length ≤ 20) (w : World) (hH : Holds D w) : z8 Tryz.prog 130 [.slice a n c] w (st (zmC ps)) := by
  unfold z8;obtain rfl : n = ps.length := by have := hS.len'; exact this
  refine en Tryz.func130 rfl Tryz.ntmps130 (Inv.start hH) (g [[1],[5,0],[6,2,0],[7,3,2,0]] ?_);refine WC.loopF (fun k : Nat => [(3, st (zmC (ps.take k))), (10, .slice a ps.length c), (11, nt ps.length), (12, nt k)]) (fun k => k ≤ ps.length) (fun k => ps.length - k) 0 (Nat.zero_le _) ⟨rfl, rfl, rfl, rfl, trivial⟩ ?_;intro k hk;have hjl := zog (ps.take k) (fun p hp => hps p (List.mem_of_mem_take hp));rw [List.length_take] at hjl;have hjm : min k ps.length ≤ 20 := by omega
  refine g [[1],[5,3,10,11,12]] ?_;refine WC.cond rfl (fun c13 => ?_) (fun c13 => ?_)
  · try simp only [zq] at c13
    have hkl : k < ps.length := by omega
    refine g [[5],[1,3,10,11,12]] ?_;refine WL.yd (Yd.ix rfl rfl (hS.addr k (by omega))) rfl (WL.yd (Yd.l1 rfl ((hS.at k (by omega)).rd 0 rfl)) rfl (g [[4]] ?_));generalize hg : gt ps k = pk;have hok : zmE pk := hg ▸ hps _ (k5 hkl);rcases pk with l | n | n | x
    · have hl1 : l.length ≤ 10000 := hok;refine g [[1,5,3,10,11,12]] ?_;skip;refine g [[5],[1,16,3,10,11,12]] ?_;refine WL.yd (Yd.assert UnF.h (by intro _ h; cases h) rfl) rfl (g [[6],[4,19,3,10,11,12],[3,6,3,10,11,12]] ?_);refine WL.yd (Yd.addS rfl rfl (by (try simp only [List.length_append, List.length_cons, List.length_nil]); omega)) rfl (g [[5],[4,3,10,11,12]] ?_);exact WP.againF (k + 1) hkl (by omega) ⟨by show some (st _) = some (st _); rw [zmy hg hkl]; simp_all [zn7, two, vX, zmC], rfl, rfl, rfl, trivial⟩ (fun _ h => nomatch h) (fun _ => List.nodup_nil)
    · have hl1 : (num n).length ≤ 20 := zni hok;refine g [[1,5,3,10,11,12]] ?_;skip;refine g [[5],[1,16,3,10,11,12]] ?_;refine WL.yd (Yd.assertNo UnF.h (by intro _ h; cases h) ZvF.h rfl rfl) rfl (g [[6],[1,16,3,10,11,12]] ?_);refine WL.yd (Yd.assert UnF.h (by intro _ h; cases h) rfl) rfl (g [[6],[4,25,3,10,11,12],[3,7,3,10,11,12]] ?_);refine WL.cl rfl (fun w hI => Xw _ hok D hL _ hI.imm) ?_;refine WL.yd (Yd.addS rfl rfl (by (try simp only [List.length_append, List.length_cons, List.length_nil]); omega)) rfl (g [[5],[4,3,10,11,12]] ?_);exact WP.againF (k + 1) hkl (by omega) ⟨by show some (st _) = some (st _); rw [zmy hg hkl]; simp_all [zn7, two, vX, zmC], rfl, rfl, rfl, trivial⟩ (fun _ h => nomatch h) (fun _ => List.nodup_nil)
    · have hl1 : (num n).length ≤ 20 := zni hok;have hl3 : (zmC [Part.i n]).length ≤ 20 := by simp [zmC, zn7]; omega
      refine g [[1,5,3,10,11,12]] ?_;skip;refine g [[5],[1,16,3,10,11,12]] ?_;refine WL.yd (Yd.assertNo UnF.h (by intro _ h; cases h) ZvF.h rfl rfl) rfl (g [[6],[1,16,3,10,11,12]] ?_);refine WL.yd (Yd.assertNo UnF.h (by intro _ h; cases h) ZvF.h rfl rfl) rfl (g [[6],[1,16,3,10,11,12]] ?_);refine WL.yd (Yd.assert UnF.h (by intro _ h; cases h) rfl) rfl (g [[6],[6,32,3,10,11,12],[5,8,3,10,11,12]] ?_);refine WC.cond rfl (fun c34 => ?_) (fun c34 => ?_)
      · try simp only [zq] at c34
        refine g [[2,8,3,10,11,12]] ?_;refine WL.yd (Yd.addS rfl rfl (by (try simp only [List.length_append, List.length_cons, List.length_nil]); omega)) rfl (g [[3],[4,3,8,10,11,12]] ?_);refine WL.so (SO.buildSlice UnF.h SzF.h ZvF.h rfl rfl rfl rfl (cs := [_]) rfl) rfl ?_;rintro _ _ _ ⟨b40, hb40, rfl, rfl, rfl⟩;refine WL.cl rfl (fun w hI => zoW [Part.i n] _ _ _ _ (hL.ext ((DExt.refl _ D).add (hI.apart _ _ (List.mem_of_getElem? (i := 0) rfl)) hb40)) (SlL.ofBlock (l := [Part.i n]) (f := zpB) (m := 1) (rest := []) (fun _ => rfl) (Imm.add_self _ _ _)) (by simp [zmE]; simp_all [zmE, i64B]) (by simp [zsa]) (by simp) _ (hI.freezeK 0 rfl).2.imm) ?_;refine WL.yd (Yd.addS rfl rfl (by (try simp only [List.length_append, List.length_cons, List.length_nil]); omega)) rfl (g [[5],[4,3,10,11,12]] ?_);exact WP.againF (k + 1) hkl (by omega) ⟨by show some (st _) = some (st _); rw [zmy hg hkl]; simp_all [zn7, two, vX, zmC], rfl, rfl, rfl, trivial⟩ (fun _ h => nomatch h) (fun _ => List.nodup_nil)
      try simp only [zq] at c34
      refine g [[2],[4,8,3,10,11,12]] ?_;refine WL.so (SO.buildSlice UnF.h SzF.h ZvF.h rfl rfl rfl rfl (cs := [_]) rfl) rfl ?_;rintro _ _ _ ⟨b40, hb40, rfl, rfl, rfl⟩;refine WL.cl rfl (fun w hI => zoW [Part.i n] _ _ _ _ (hL.ext ((DExt.refl _ D).add (hI.apart _ _ (List.mem_of_getElem? (i := 0) rfl)) hb40)) (SlL.ofBlock (l := [Part.i n]) (f := zpB) (m := 1) (rest := []) (fun _ => rfl) (Imm.add_self _ _ _)) (by simp [zmE]; simp_all [zmE, i64B]) (by simp [zsa]) (by simp) _ (hI.freezeK 0 rfl).2.imm) ?_;refine WL.yd (Yd.addS rfl rfl (by (try simp only [List.length_append, List.length_cons, List.length_nil]); omega)) rfl (g [[5],[4,3,10,11,12]] ?_);exact WP.againF (k + 1) hkl (by omega) ⟨by show some (st _) = some (st _); rw [zmy hg hkl]; simp_all [zn7, two, vX, zmC], rfl, rfl, rfl, trivial⟩ (fun _ h => nomatch h) (fun _ => List.nodup_nil)
    have hl1 : (num x.lo).length ≤ 20 := zni hok.1;have hl2 : (num x.hi).length ≤ 20 := zni hok.2;have hl3 : (zmC [Part.i x.lo]).length ≤ 20 := by simp [zmC, zn7]; omega
    have hl4 : (zmC [Part.s [46, 46], Part.i x.hi]).length ≤ 22 := by simp [zmC, zn7]; omega
    refine g [[1,5,3,10,11,12]] ?_;skip;refine g [[5],[1,16,3,10,11,12]] ?_;refine WL.yd (Yd.assertNo UnF.h (by intro _ h; cases h) ZvF.h rfl rfl) rfl (g [[6],[1,16,3,10,11,12]] ?_);refine WL.yd (Yd.assertNo UnF.h (by intro _ h; cases h) ZvF.h rfl rfl) rfl (g [[6],[1,16,3,10,11,12]] ?_);refine WL.yd (Yd.assertNo UnF.h (by intro _ h; cases h) ZvF.h rfl rfl) rfl (g [[6],[1,16,3,10,11,12]] ?_);refine WL.yd (Yd.assert UnF.h (by intro _ h; cases h) rfl) rfl (g [[6],[1,45,3,10,11,12]] ?_);refine WL.so (SO.alloc ZvF.h rfl) rfl (zw fun b9 hb9 => ?_);refine g [[4],[5,9,3,10,11,12]] ?_;refine WL.so (SO.buildSlice UnF.h SzF.h ZvF.h rfl rfl rfl rfl (cs := [_]) rfl) rfl ?_;rintro _ _ _ ⟨b50, hb50, rfl, rfl, rfl⟩;refine WL.cl rfl (fun w hI => zoW [Part.i x.lo] _ _ _ _ (hL.ext ((DExt.refl _ D).add (hI.apart _ _ (List.mem_of_getElem? (i := 0) rfl)) hb50)) (SlL.ofBlock (l := [Part.i x.lo]) (f := zpB) (m := 1) (rest := []) (fun _ => rfl) (Imm.add_self _ _ _)) (by simp [zmE]; simp_all [zmE, i64B]) (by simp [zsa]) (by simp) _ (hI.freezeK 0 rfl).2.imm) ?_;refine WL.yd (Yd.addS rfl rfl (by (try simp only [List.length_append, List.length_cons, List.length_nil]); omega)) rfl (g [[4],[8,3,9,10,11,12]] ?_);refine WC.cond rfl (fun c57 => ?_) (fun c57 => ?_)
    · try simp only [zq] at c57
      refine g [[6,3,9,10,11,12]] ?_;refine WL.so (SO.buildSlice UnF.h SzF.h ZvF.h rfl rfl rfl rfl (cs := [_, _]) rfl) rfl ?_;rintro _ _ _ ⟨b63, hb63, rfl, rfl, rfl⟩;refine WL.cl rfl (fun w hI => zoW [Part.s [46, 46], Part.i x.hi] _ _ _ _ (hL.ext ((DExt.refl _ D).add (hI.apart _ _ (List.mem_of_getElem? (i := 0) rfl)) hb63)) (SlL.ofBlock (l := [Part.s [46, 46], Part.i x.hi]) (f := zpB) (m := 1) (rest := []) (fun _ => rfl) (Imm.add_self _ _ _)) (by simp [zmE]; simp_all [zmE, i64B]) (by simp [zsa]) (by simp) _ (hI.freezeK 0 rfl).2.imm) ?_;refine WL.yd (Yd.addS rfl rfl (by (try simp only [List.length_append, List.length_cons, List.length_nil]); omega)) rfl (g [[5],[4,3,10,11,12]] ?_);exact WP.againF (k + 1) hkl (by omega) ⟨by show some (st _) = some (st _); rw [zmy hg hkl]; simp_all [zn7, two, vX, zmC], rfl, rfl, rfl, trivial⟩ (fun _ h => nomatch h) (fun _ => List.nodup_nil)
    try simp only [zq] at c57
    refine g [[4],[4,3,10,11,12]] ?_;exact WP.againF (k + 1) hkl (by omega) ⟨by show some (st _) = some (st _); rw [zmy hg hkl]; simp_all [zn7, two, vX, zmC], rfl, rfl, rfl, trivial⟩ (fun _ h => nomatch h) (fun _ => List.nodup_nil)
  try simp only [zq] at c13
  obtain rfl : k = ps.length := by omega
  refine g [[6],[6,3]] ?_;refine WP.ret1 rfl rfl rfl (RV.tmp rfl) (fun w hI => ⟨by rw [List.take_length], hI.keep⟩)
end
theorem SA81 : zj Tryz.prog 81 [.int .i64 0, .int .i64 0] [(0, 1), (1, 1)] := ⟨⟨_, Tryz.zeroValue81, rfl⟩, _, Tryz.underlying81, fun w => by simp [Tryz.sizeOf3]⟩
abbrev zyr := SaF.mk SA81
attribute [instance] zyr
def endO (o : Option Value) : Ending := match o with | some v => .returned v | none => .panicked (zpI 8)
def Try1 (f : FuncId) (vals : List Value) (w : World) (o : Option Value) : Prop := Calls Tryz.prog f vals.toArray w fun e w' => e = endO o ∧ Keep [] w w'
section
variable {f : FuncId} {vals : List Value} {w : World}
include f vals w
theorem Try1.ok {o : Option Value} {v : Value} (h : Try1 f vals w o) (e : o = some v) : z8 Tryz.prog f vals w v := by subst e; exact h
theorem Try1.no {o : Option Value} (h : Try1 f vals w o) (e : o = none) : xC Tryz.prog f vals w (zpI 8) := by subst e; exact h
theorem Try1.of {α : Type} {o : Option α} {φ : α → Value} (h1 : ∀ x, o = some x → z8 Tryz.prog f vals w (φ x)) (h2 : o = none → xC Tryz.prog f vals w (zpI 8)) : Try1 f vals w (o.map φ) := by
  cases o with
  | none => exact h2 rfl
  | some x => exact h1 x rfl
end
def Try2 {α : Type} (f : FuncId) (vals : List Value) (w : World) (D : Imm) (o : Option α) (φ : α → Value → Imm → Prop) : Prop := Calls Tryz.prog f vals.toArray w fun e w' =>
  (∃ x v D', o = some x ∧ e = .returned v ∧ Keep [] w w' ∧ Holds D' w' ∧ DExt w D D' ∧ φ x v D') ∨ (o = none ∧ e = .panicked (zpI 8) ∧ Keep [] w w')
section
variable {α : Type} {f : FuncId} {vals : List Value} {w : World} {D : Imm} {o : Option α} {φ : α → Value → Imm → Prop}
include α f vals w D o φ
theorem Try2.ok {x : α} (h : Try2 f vals w D o φ) (e : o = some x) : y6 Tryz.prog f vals w D (φ x) := by
  refine h.mono ?_;rintro e' w' (⟨y, v, D', h1, h2⟩ | ⟨h1, _⟩)
  · rw [e] at h1; cases h1; exact ⟨v, D', h2⟩
  rw [e] at h1; cases h1
theorem Try2.no (h : Try2 f vals w D o φ) (e : o = none) : xC Tryz.prog f vals w (zpI 8) := by
  refine h.mono ?_;rintro e' w' (⟨y, v, D', h1, h2⟩ | ⟨_, h2⟩)
  · rw [e] at h1; cases h1
  exact h2
end
def spC (s : Sp) : List Value := [it s.lo, it s.hi]
def zts (h : zqS) : List Value := [it h.wind.lo, it h.wind.hi, it h.thunder]
def zsr (s : zwB) : List Value := [it s.hour, .bool s.up]
def bsC (s : zms) : List Value := [it s.minute, it s.cols.lo, it s.cols.hi, it s.rows.lo, it s.rows.hi]
theorem zyD : zj Tryz.prog 141 [.int .i64 0, .int .i64 0, .int .i64 0] [(0, 2), (2, 1)] := ⟨⟨_, Tryz.zeroValue141, rfl⟩, _, Tryz.underlying141, fun w => by simp [Tryz.sizeOf3, Tryz.sizeOf81]⟩
abbrev zwK := SaF.mk zyD
attribute [instance] zwK
theorem zyE : zj Tryz.prog 144 [.int .i64 0, .bool false] [(0, 1), (1, 1)] := ⟨⟨_, Tryz.zeroValue144, rfl⟩, _, Tryz.underlying144, fun w => by simp [Tryz.sizeOf3, Tryz.sizeOf4]⟩
abbrev zwL := SaF.mk zyE
attribute [instance] zwL
theorem zyF : zj Tryz.prog 146 [.int .i64 0, .int .i64 0, .int .i64 0, .int .i64 0, .int .i64 0] [(0, 1), (1, 2), (3, 2)] := ⟨⟨_, Tryz.zeroValue146, rfl⟩, _, Tryz.underlying146, fun w => by simp [Tryz.sizeOf3, Tryz.sizeOf81]⟩
abbrev zwM := SaF.mk zyF
attribute [instance] zwM
structure Sl where
  a : Option Addr
  n : Nat
  c : Nat
deriving Inhabited
abbrev slV (s : Sl) : Value := .slice s.a s.n s.c
def hutC (h : Hut) : List Value := [it h.floor, it h.brake, it h.row]
structure znC where
  w : Sl
  v : Sl
  h : Sl
deriving Inhabited
abbrev zu5 (s : Surf) (m : znC) : Value := .agg #[it s.rows, it s.step, slV m.w, slV m.v, slV m.h]
structure znP (D : Imm) (s : Surf) (m : znC) : Prop where
  w : SlL D 2 (s.water.map spC) m.w.a m.w.n
  v : SlL D 2 (s.waves.map spC) m.v.a m.v.n
  h : SlL D 3 (s.huts.map hutC) m.h.a m.h.n
  nw : m.w.n ≤ 9223372036854775807
  nv : m.v.n ≤ 9223372036854775807
  nh : m.h.n ≤ 9223372036854775807
theorem znP.ext {w : World} {D D' : Imm} (hD : DExt w D D') {s : Surf} {m : znC} (h : znP D s m) : znP D' s m := ⟨h.w.ext hD, h.v.ext hD, h.h.ext hD, h.nw, h.nv, h.nh⟩
structure zmF where
  h : Sl
  s : Sl
deriving Inhabited
abbrev zrt (f : Flag) (m : zmF) : Value := .agg #[it f.low, it f.high, it f.quiet, slV m.h, slV m.s]
structure zpN (D : Imm) (f : Flag) (m : zmF) : Prop where
  h : SlL D 3 (f.hours.map zts) m.h.a m.h.n
  s : SlL D 2 (f.seen.map zsr) m.s.a m.s.n
  nh : m.h.n ≤ 9223372036854775807
  ns : m.s.n ≤ 9223372036854775807
theorem zpN.ext {w : World} {D D' : Imm} (hD : DExt w D D') {s : Flag} {m : zmF} (h : zpN D s m) : zpN D' s m := ⟨h.h.ext hD, h.s.ext hD, h.nh, h.ns⟩
structure k4 where
  sl : Sl
  l : List Sl
deriving Inhabited
def slC (s : Sl) : List Value := [slV s]
abbrev znc (b : xb) (m : k4) : Value := .agg #[it b.wide, it b.deep, it b.speed, it b.last, slV m.sl]
structure zmz (D : Imm) (b : xb) (m : k4) : Prop where
  sl : SlL D 1 (m.l.map slC) m.sl.a m.sl.n
  len : m.l.length = b.seen.length
  row : ∀ i, i < b.seen.length → SlL D 5 ((gt b.seen i).map bsC) (gt m.l i).a (gt m.l i).n
  n : m.sl.n ≤ 9223372036854775807
  nr : ∀ i, i < b.seen.length → (gt m.l i).n ≤ 9223372036854775807
theorem zmz.ext {w : World} {D D' : Imm} (hD : DExt w D D') {s : xb} {m : k4} (h : zmz D s m) : zmz D' s m := ⟨h.sl.ext hD, h.len, fun i hi => (h.row i hi).ext hD, h.n, h.nr⟩
theorem znD {α : Type} [Inhabited α] {l : List α} {p : α → Bool} {k : Nat} (h : k < l.length) : (l.take (k + 1)).all p = ((l.take k).all p && p (gt l k)) := by
  have : gt l k = l[k] := by simp [gt, List.getD, h]
  rw [List.take_succ_eq_append_getElem h, List.all_append, this];simp
theorem bs3 {A P p q u r : Bool} (h : (A && P) = true → p = true → q = true → r = u) (h1 : (A && P) = true → p = true → q = false → r = false) (h2 : (A && P) = true → p = false → r = false) (h3 : (A && P) = false → r = false) : r = (A && (P && (p && q && u))) := by
  cases A <;> cases P <;> cases p <;> cases q <;> cases u <;> simp_all
theorem bs5 {X P p q u r : Bool} (h : (X && P) = true → p = true → q = true → r = u) (h1 : (X && P) = true → p = true → q = false → r = false) (h2 : (X && P) = true → p = false → r = false) (h3 : (X && P) = false → r = false) : r = (X && (P && (p && q && u))) := by
  cases X <;> cases P <;> cases p <;> cases q <;> cases u <;> simp_all
theorem bjF {X Y : Bool} (h : X = false) : false = (X && Y) := by simp [h]
theorem xx {a b : Bool} (h : a = b) : some (Value.bool a) = some (Value.bool b) := by rw [h]
theorem zmS (n lo hi : Int) (w : World) : z8 Tryz.prog 116 [it n, it lo, it hi] w (.bool (inB n lo hi)) := by
  unfold z8;refine en Tryz.func116 rfl Tryz.ntmps116 zI (g [[1],[5,0,1,2],[5,6,0,1,2]] ?_);refine WL.part 10 rfl (fun g10 => ?_) (fun g10 => ?_)
  · try simp only [zq] at g10
    refine g [[8]] ?_;refine WP.ret1 rfl rfl rfl (RV.tmp rfl) (fun w hI => ⟨zb (by rw [Bool.eq_iff_iff]; simp [inB]; omega), hI.keep⟩)
  try simp only [zq] at g10
  refine g [[8]] ?_;refine WP.ret1 rfl rfl rfl (RV.tmp rfl) (fun w hI => ⟨zb (by rw [Bool.eq_iff_iff]; simp [inB]; omega), hI.keep⟩)
theorem Xv (s : Sp) (lo hi : Int) (w : World) : z8 Tryz.prog 117 [.agg #[it s.lo, it s.hi], it lo, it hi] w (.bool (spB s lo hi)) := by
  unfold z8;refine en Tryz.func117 rfl Tryz.ntmps117 zI (g [[1],[1,0,1,2]] ?_);refine WL.so (SO.box rfl rfl) rfl (zw fun b3 hb3 => ?_);refine g [[4],[6,6,3,1,2]] ?_;refine WL.part 11 rfl (fun g11 => ?_) (fun g11 => ?_)
  · try simp only [zq] at g11
    refine g [[7]] ?_;refine WL.part 18 rfl (fun g18 => ?_) (fun g18 => ?_)
    · try simp only [zq] at g18
      refine g [[9]] ?_;refine WP.ret1 rfl rfl rfl (RV.tmp rfl) (fun w hI => ⟨zb (by rw [Bool.eq_iff_iff]; simp [spB]; omega), hI.keep⟩)
    try simp only [zq] at g18
    refine g [[9]] ?_;refine WP.ret1 rfl rfl rfl (RV.tmp rfl) (fun w hI => ⟨zb (by rw [Bool.eq_iff_iff]; simp [spB]; omega), hI.keep⟩)
  try simp only [zq] at g11
  refine g [[16]] ?_;refine WP.ret1 rfl rfl rfl (RV.tmp rfl) (fun w hI => ⟨zb (by rw [Bool.eq_iff_iff]; simp [spB]; omega), hI.keep⟩)
def zwi (b : xb) (m : Int) (s : zms) : Bool := inB s.minute m b.last && spB s.cols 0 (b.wide - 1) && spB s.rows 0 (b.deep - 1)
def zpC (m : Int) (l : List zms) (j : Nat) : Int := match j with | 0 => m | j + 1 => (gt l j).minute
theorem zn0 {b : xb} : ∀ (l : List zms) (m : Int) (j : Nat), j < l.length → rowB b m (l.take (j + 1)) = (rowB b m (l.take j) && zwi b (zpC m l j) (gt l j))
  | s :: l, m, 0, _ => by simp [rowB, zwi, zpC, gt]
  | s :: l, m, j + 1, h => by
    have ih := zn0 (b := b) l s.minute j (by simpa using h);have e1 : gt (s :: l) (j + 1) = gt l j := by simp [gt, List.getD]
    have e2 : zpC m (s :: l) (j + 1) = zpC s.minute l j := by
      cases j with
      | zero => rfl
      | succ j => simp [zpC, gt, List.getD]
    rw [List.take_succ_cons, List.take_succ_cons, rowB, rowB, ih, e1, e2];simp only [Bool.and_assoc]
theorem zpU (b : xb) : ((inB b.wide 1 8 && inB b.deep 1 6 && inB b.speed 0 3 && inB b.last 0 12 && decide (b.seen.length ≤ 4)) && (b.seen.take b.seen.length).all (fun l => decide (l.length ≤ 5) && rowB b 0 l)) = zmP b := by
  simp only [zmP, List.take_length]
theorem zpr (b : xb) (m : k4) (D : Imm) (w : World) (hR : zmz D b m) (hH : Holds D w) : z8 Tryz.prog 151 [znc b m] w (.bool (zmP b)) := by
  unfold z8;obtain ⟨⟨ba, bn, bc⟩, ml⟩ := m;have hml : ml.length = b.seen.length := hR.len;have hRs0 : SlL D 1 (ml.map slC) ba bn := hR.sl;obtain rfl : bn = b.seen.length := by have := hRs0.len'; omega
  have hRr : ∀ i, i < b.seen.length → SlL D 5 ((gt b.seen i).map bsC) (gt ml i).a (gt ml i).n := hR.row;have hRn : ∀ i, i < b.seen.length → (gt ml i).n ≤ 9223372036854775807 := hR.nr;have nb : b.seen.length ≤ 9223372036854775807 := hR.n;refine en Tryz.func151 rfl Tryz.ntmps151 (Inv.start hH) (g [[1],[1,0]] ?_);refine WL.so (SO.box rfl rfl) rfl (zw fun b1 hb1 => ?_);refine g [[3]] ?_;refine WC.seqJ (α := Unit) (fun _ => [(1, pt b1), (3, .bool (inB b.wide 1 8 && inB b.deep 1 6 && inB b.speed 0 3 && inB b.last 0 12 && decide (b.seen.length ≤ 4)))]) (fun _ => [(b1, .cells (List.toArray [it b.wide, it b.deep, it b.speed, it b.last, .slice ba b.seen.length bc]) 56 (0, 0))]) (fun _ => D) (fun _ => True) ?_ ?_
  · rintro _ -;refine g [[2],[8,1,3]] ?_;refine WC.loopF (fun k : Nat => [(1, pt b1), (3, .bool ((inB b.wide 1 8 && inB b.deep 1 6 && inB b.speed 0 3 && inB b.last 0 12 && decide (b.seen.length ≤ 4)) && (b.seen.take k).all (fun l => decide (l.length ≤ 5) && rowB b 0 l))), (34, .slice ba b.seen.length bc), (35, nt b.seen.length), (36, nt k)]) (fun k => k ≤ b.seen.length) (fun k => b.seen.length - k) 0 (Nat.zero_le _) ⟨rfl, xx (by simp), rfl, rfl, rfl, trivial⟩ ?_;intro k hk;refine g [[1],[5,1,3,34,35,36]] ?_;refine WC.cond rfl (fun c37 => ?_) (fun c37 => ?_)
    · try simp only [zq] at c37
      have hkl : k < b.seen.length := by omega
      refine g [[5],[1,1,3,34,35,36]] ?_;refine WL.yd (Yd.ix rfl rfl (hRs0.addr k (by omega))) rfl (WL.yd (Yd.l1 rfl ((hRs0.at k (by omega)).rd 0 rfl)) rfl (g [[3]] ?_));have hrow := hRr k hkl;have hrn := hRn k hkl;generalize gt ml k = q at hrow hrn ⊢;obtain ⟨ra, rn, rc⟩ := q;obtain rfl : rn = (gt b.seen k).length := hrow.len';dsimp only at hrow hrn;refine WC.seqJ (α := Unit) (fun _ => [(1, pt b1), (3, .bool (((inB b.wide 1 8 && inB b.deep 1 6 && inB b.speed 0 3 && inB b.last 0 12 && decide (b.seen.length ≤ 4)) && (b.seen.take k).all (fun l => decide (l.length ≤ 5) && rowB b 0 l)) && decide ((gt b.seen k).length ≤ 5))), (5, .slice ra (gt b.seen k).length rc), (34, .slice ba b.seen.length bc), (35, nt b.seen.length), (36, nt k)]) (fun _ => [(b1, .cells (List.toArray [it b.wide, it b.deep, it b.speed, it b.last, .slice ba b.seen.length bc]) 56 (0, 0))]) (fun _ => D) (fun _ => True) ?_ ?_
      · rintro _ -;refine g [[1],[5,1,3,5,34,35,36],[7,6,1,3,5,34,35,36]] ?_;refine WC.loopF (fun j : Nat => [(1, pt b1), (3, .bool (((inB b.wide 1 8 && inB b.deep 1 6 && inB b.speed 0 3 && inB b.last 0 12 && decide (b.seen.length ≤ 4)) && (b.seen.take k).all (fun l => decide (l.length ≤ 5) && rowB b 0 l)) && decide ((gt b.seen k).length ≤ 5) && rowB b 0 ((gt b.seen k).take j))), (6, it (zpC 0 (gt b.seen k) j)), (34, .slice ba b.seen.length bc), (35, nt b.seen.length), (36, nt k), (46, .slice ra (gt b.seen k).length rc), (47, nt (gt b.seen k).length), (48, nt j)]) (fun j => j ≤ (gt b.seen k).length) (fun j => (gt b.seen k).length - j) 0 (Nat.zero_le _) ⟨rfl, xx (by simp [rowB]), rfl, rfl, rfl, rfl, rfl, rfl, rfl, trivial⟩ ?_;intro j hj;refine g [[1],[5,1,3,6,34,35,36,46,47,48]] ?_;refine WC.cond rfl (fun c49 => ?_) (fun c49 => ?_)
        · try simp only [zq] at c49
          have hjl : j < (gt b.seen k).length := by omega
          refine g [[5],[1,1,3,6,34,35,36,46,47,48]] ?_;refine WL.yd (Yd.ix rfl rfl (hrow.addr j (by omega))) rfl (WL.yd (Yd.lV [_, _, _, _, _] rfl ((hrow.at j (by omega)).rdn 0 5 rfl)) rfl ?_);refine WL.so (SO.alloc ZvF.h rfl) rfl (zw fun b8 hb8 => ?_);refine g [[4],[3,8,1,3,6,34,35,36,46,47,48]] ?_;refine WL.part 53 rfl (fun g53 => ?_) (fun g53 => ?_)
          · have hwd : 1 ≤ b.wide ∧ b.wide ≤ 8 ∧ 1 ≤ b.deep ∧ b.deep ≤ 6 := by simp only [Bool.and_eq_true, znf] at g53; omega
            refine g [[5]] ?_;refine WL.sog rfl (SO.callP CaF.h rfl (fun w hI => zmS _ _ _ _)) rfl (zs (g [[2]] ?_));refine WL.part 61 rfl (fun g61 => ?_) (fun g61 => ?_)
            · refine g [[5]] ?_;refine WL.sog rfl (SO.callP CaF.h rfl (fun w hI => Xv (gt (gt b.seen k) j).cols 0 (b.wide - 1) _)) rfl (zs (g [[2]] ?_));refine WL.part 69 rfl (fun g69 => ?_) (fun g69 => ?_)
              · refine g [[5]] ?_;refine WL.sog rfl (SO.callP CaF.h rfl (fun w hI => Xv (gt (gt b.seen k) j).rows 0 (b.deep - 1) _)) rfl (zs (g [[4],[7,3,8,1,6,34,35,36,46,47,48],[4,6,3,1,34,35,36,46,47,48]] ?_));exact WP.againF (j + 1) hjl (by omega) ⟨rfl, xx (by rw [zn0 _ _ _ hjl]; exact bs5 (fun a b c => by first | rfl | assumption | (exact bnc a (by assumption)) | (exact bnc (by assumption) a) | (exact bnc b (by assumption)) | (exact bnc (by assumption) b) | (exact bnc c (by assumption)) | (exact bnc (by assumption) c)) (fun a b c => by first | rfl | assumption | (exact bnc a (by assumption)) | (exact bnc (by assumption) a) | (exact bnc b (by assumption)) | (exact bnc (by assumption) b) | (exact bnc c (by assumption)) | (exact bnc (by assumption) c)) (fun a b => by first | rfl | assumption | (exact bnc a (by assumption)) | (exact bnc (by assumption) a) | (exact bnc b (by assumption)) | (exact bnc (by assumption) b) | (exact bnc c (by assumption)) | (exact bnc (by assumption) c)) (fun a => by first | rfl | assumption | (exact bnc a (by assumption)) | (exact bnc (by assumption) a) | (exact bnc b (by assumption)) | (exact bnc (by assumption) b) | (exact bnc c (by assumption)) | (exact bnc (by assumption) c))), rfl, rfl, rfl, rfl, rfl, rfl, rfl, trivial⟩ (fun _ h => List.mem_cons_of_mem _ h) (fun h => (List.nodup_cons.1 h).2)
              refine g [[10],[7,3,8,1,6,34,35,36,46,47,48],[4,6,3,1,34,35,36,46,47,48]] ?_;exact WP.againF (j + 1) hjl (by omega) ⟨rfl, xx (by rw [zn0 _ _ _ hjl]; exact bs5 (fun a b c => by first | rfl | assumption | (exact bnc a (by assumption)) | (exact bnc (by assumption) a) | (exact bnc b (by assumption)) | (exact bnc (by assumption) b) | (exact bnc c (by assumption)) | (exact bnc (by assumption) c)) (fun a b c => by first | rfl | assumption | (exact bnc a (by assumption)) | (exact bnc (by assumption) a) | (exact bnc b (by assumption)) | (exact bnc (by assumption) b) | (exact bnc c (by assumption)) | (exact bnc (by assumption) c)) (fun a b => by first | rfl | assumption | (exact bnc a (by assumption)) | (exact bnc (by assumption) a) | (exact bnc b (by assumption)) | (exact bnc (by assumption) b) | (exact bnc c (by assumption)) | (exact bnc (by assumption) c)) (fun a => by first | rfl | assumption | (exact bnc a (by assumption)) | (exact bnc (by assumption) a) | (exact bnc b (by assumption)) | (exact bnc (by assumption) b) | (exact bnc c (by assumption)) | (exact bnc (by assumption) c))), rfl, rfl, rfl, rfl, rfl, rfl, rfl, trivial⟩ (fun _ h => List.mem_cons_of_mem _ h) (fun h => (List.nodup_cons.1 h).2)
            refine g [[18],[7,3,8,1,6,34,35,36,46,47,48],[4,6,3,1,34,35,36,46,47,48]] ?_;exact WP.againF (j + 1) hjl (by omega) ⟨rfl, xx (by rw [zn0 _ _ _ hjl]; exact bs5 (fun a b c => by first | rfl | assumption | (exact bnc a (by assumption)) | (exact bnc (by assumption) a) | (exact bnc b (by assumption)) | (exact bnc (by assumption) b) | (exact bnc c (by assumption)) | (exact bnc (by assumption) c)) (fun a b c => by first | rfl | assumption | (exact bnc a (by assumption)) | (exact bnc (by assumption) a) | (exact bnc b (by assumption)) | (exact bnc (by assumption) b) | (exact bnc c (by assumption)) | (exact bnc (by assumption) c)) (fun a b => by first | rfl | assumption | (exact bnc a (by assumption)) | (exact bnc (by assumption) a) | (exact bnc b (by assumption)) | (exact bnc (by assumption) b) | (exact bnc c (by assumption)) | (exact bnc (by assumption) c)) (fun a => by first | rfl | assumption | (exact bnc a (by assumption)) | (exact bnc (by assumption) a) | (exact bnc b (by assumption)) | (exact bnc (by assumption) b) | (exact bnc c (by assumption)) | (exact bnc (by assumption) c))), rfl, rfl, rfl, rfl, rfl, rfl, rfl, trivial⟩ (fun _ h => List.mem_cons_of_mem _ h) (fun h => (List.nodup_cons.1 h).2)
          refine g [[26],[7,3,8,1,6,34,35,36,46,47,48],[4,6,3,1,34,35,36,46,47,48]] ?_;exact WP.againF (j + 1) hjl (by omega) ⟨rfl, xx (by rw [zn0 _ _ _ hjl]; exact bs5 (fun a b c => by first | rfl | assumption | (exact bnc a (by assumption)) | (exact bnc (by assumption) a) | (exact bnc b (by assumption)) | (exact bnc (by assumption) b) | (exact bnc c (by assumption)) | (exact bnc (by assumption) c)) (fun a b c => by first | rfl | assumption | (exact bnc a (by assumption)) | (exact bnc (by assumption) a) | (exact bnc b (by assumption)) | (exact bnc (by assumption) b) | (exact bnc c (by assumption)) | (exact bnc (by assumption) c)) (fun a b => by first | rfl | assumption | (exact bnc a (by assumption)) | (exact bnc (by assumption) a) | (exact bnc b (by assumption)) | (exact bnc (by assumption) b) | (exact bnc c (by assumption)) | (exact bnc (by assumption) c)) (fun a => by first | rfl | assumption | (exact bnc a (by assumption)) | (exact bnc (by assumption) a) | (exact bnc b (by assumption)) | (exact bnc (by assumption) b) | (exact bnc c (by assumption)) | (exact bnc (by assumption) c))), rfl, rfl, rfl, rfl, rfl, rfl, rfl, trivial⟩ (fun _ h => List.mem_cons_of_mem _ h) (fun h => (List.nodup_cons.1 h).2)
        try simp only [zq] at c49
        obtain rfl : j = (gt b.seen k).length := by omega
        refine g [[6],[4,1,3,34,35,36]] ?_;exact WP.againF (k + 1) hkl (by omega) ⟨rfl, xx (by rw [znD hkl, List.take_length]; simp only [Bool.and_assoc]), rfl, rfl, rfl, trivial⟩ (fun _ h => h) (fun h => h)
      skip;refine g [[3,5,1,3,34,35,36]] ?_;refine WL.part 41 rfl (fun g41 => ?_) (fun g41 => ?_)
      · refine g [[6]] ?_;exact WP.join () trivial (fun a w h => yi h ⟨rfl, xx (by first | exact bjF g41 | exact bjF (by first | rfl | assumption | (exact bnc a (by assumption)) | (exact bnc (by assumption) a) | (exact bnc b (by assumption)) | (exact bnc (by assumption) b) | (exact bnc c (by assumption)) | (exact bnc (by assumption) c)) | (simp_all; done) | (rw [Bool.eq_iff_iff]; simp_all; done) | (rw [Bool.eq_iff_iff]; simp_all; omega)), rfl, rfl, rfl, rfl, trivial⟩ (fun _ h => h) (fun h => h))
      refine g [[6]] ?_;exact WP.join () trivial (fun a w h => yi h ⟨rfl, xx (by first | exact bjF g41 | exact bjF (by first | rfl | assumption | (exact bnc a (by assumption)) | (exact bnc (by assumption) a) | (exact bnc b (by assumption)) | (exact bnc (by assumption) b) | (exact bnc c (by assumption)) | (exact bnc (by assumption) c)) | (simp_all; done) | (rw [Bool.eq_iff_iff]; simp_all; done) | (rw [Bool.eq_iff_iff]; simp_all; omega)), rfl, rfl, rfl, rfl, trivial⟩ (fun _ h => h) (fun h => h))
    try simp only [zq] at c37
    obtain rfl : k = b.seen.length := by omega
    refine g [[6],[6,3]] ?_;refine WP.ret1 rfl rfl rfl (RV.tmp rfl) (fun w hI => ⟨zb (zpU b), hI.keep⟩)
  skip;refine g [[3,2,1]] ?_;refine WL.cl rfl (fun w hI => zmS _ _ _ _) (g [[1]] ?_);refine WL.part 12 rfl (fun g12 => ?_) (fun g12 => ?_)
  · refine g [[2]] ?_;refine WL.sog rfl (SO.callP CaF.h rfl (fun w hI => zmS _ _ _ _)) rfl (zs (g [[2]] ?_));refine WL.part 17 rfl (fun g17 => ?_) (fun g17 => ?_)
    · refine g [[2]] ?_;refine WL.sog rfl (SO.callP CaF.h rfl (fun w hI => zmS _ _ _ _)) rfl (zs (g [[2]] ?_));refine WL.part 22 rfl (fun g22 => ?_) (fun g22 => ?_)
      · refine g [[2]] ?_;refine WL.sog rfl (SO.callP CaF.h rfl (fun w hI => zmS _ _ _ _)) rfl (zs (g [[2]] ?_));refine WL.part 27 rfl (fun g27 => ?_) (fun g27 => ?_)
        · refine g [[7]] ?_;exact WP.join () trivial (fun a w h => yi h ⟨rfl, xx (by first | (simp_all; done) | (rw [Bool.eq_iff_iff]; simp_all; done) | (rw [Bool.eq_iff_iff]; simp_all; omega)), trivial⟩ (fun _ h => h) (fun h => h))
        refine g [[7]] ?_;exact WP.join () trivial (fun a w h => yi h ⟨rfl, xx (by first | (simp_all; done) | (rw [Bool.eq_iff_iff]; simp_all; done) | (rw [Bool.eq_iff_iff]; simp_all; omega)), trivial⟩ (fun _ h => h) (fun h => h))
      refine g [[12]] ?_;exact WP.join () trivial (fun a w h => yi h ⟨rfl, xx (by first | (simp_all; done) | (rw [Bool.eq_iff_iff]; simp_all; done) | (rw [Bool.eq_iff_iff]; simp_all; omega)), trivial⟩ (fun _ h => h) (fun h => h))
    refine g [[17]] ?_;exact WP.join () trivial (fun a w h => yi h ⟨rfl, xx (by first | (simp_all; done) | (rw [Bool.eq_iff_iff]; simp_all; done) | (rw [Bool.eq_iff_iff]; simp_all; omega)), trivial⟩ (fun _ h => h) (fun h => h))
  refine g [[22]] ?_;exact WP.join () trivial (fun a w h => yi h ⟨rfl, xx (by first | (simp_all; done) | (rw [Bool.eq_iff_iff]; simp_all; done) | (rw [Bool.eq_iff_iff]; simp_all; omega)), trivial⟩ (fun _ h => h) (fun h => h))
theorem i100 {n : Int} (h : zmT n) : i64B n := ⟨by have := h.1; omega, by have := h.2; omega⟩
theorem zov {α : Type} {f : α → Bs} {c : Nat} : ∀ {l : List α}, (∀ x ∈ l, (f x).length ≤ c) → (l.flatMap f).length ≤ l.length * c
  | [], _ => by simp
  | x :: l, h => by
    have h1 := h x (by simp); have h2 := zov (l := l) (f := f) (c := c) fun y hy => h y (by simp [hy]);simp only [List.flatMap_cons, List.length_append, List.length_cons, Nat.succ_mul];omega
theorem ztk {α : Type} {f : α → Bs} {c m : Nat} {l : List α} (h : ∀ x ∈ l, (f x).length ≤ c) (hm : l.length ≤ m) (k : Nat) : ((l.take k).flatMap f).length ≤ m * c := by
  have h1 := zov (l := l.take k) (f := f) (c := c) fun x hx => h x (List.mem_of_mem_take hx);have h2 : (l.take k).length * c ≤ m * c := Nat.mul_le_mul_right c (by rw [List.length_take]; omega);omega
theorem zoQ {α : Type} [Inhabited α] {f : α → Bs} {l : List α} {k : Nat} (h : k < l.length) : (l.take (k + 1)).flatMap f = (l.take k).flatMap f ++ f (gt l k) := by
  have e : gt l k = l[k] := by simp [gt, List.getD, h]
  rw [List.take_succ_eq_append_getElem h, List.flatMap_append, e];simp
theorem zt8 {x : Sp} (h : znw x) : (colT x).length ≤ 6 := by
  have := zp7 h.1; have := zp7 h.2;simp [colT]; omega
theorem zpG {x : Sp} (h : znw x) : (vX x).length ≤ 6 := by
  have := (zn5 h.1).2; have := (zn5 h.2).2;unfold vX; split <;> simp <;> omega
end Go.Proofs.YtaiegbjgfdhgaaaGreatDoor
namespace Go.Bk
open Go.W Go.Bk Go.Proofs.YtaiegbjgfdhgaaaGreatDoor
section
variable {s : Surf} (h : zmq s)
include s h
theorem zmq.w100 : ∀ x ∈ s.water, znw x := fun x hx => zsv (h.water x hx).1 (by omega)
theorem zmq.v100 : ∀ x ∈ s.waves, znw x := fun x hx => zsv (h.waves x hx).1 (by omega)
theorem zmq.h100 : ∀ x ∈ s.huts, zmT x.floor ∧ zmT x.brake ∧ zmT x.row := fun x hx => by
  have h1 := h.huts x hx; have := h.rows;exact ⟨⟨by omega, by omega⟩, ⟨by omega, by omega⟩, ⟨by omega, by omega⟩⟩
end
end Go.Bk
namespace Go.Proofs.YtaiegbjgfdhgaaaGreatDoor
open Go.W Go.Bk
theorem okn : ∀ p ∈ ([] : List Part), zmE p := fun _ h => nomatch h
theorem oks {p : Part} {l : List Part} (h : zmE p) (hl : ∀ q ∈ l, zmE q) : ∀ q ∈ p :: l, zmE q := fun q hq => (List.mem_cons.1 hq).elim (fun e => e ▸ h) (hl q)
theorem zwh {a b : Bs} (h : a = b) : some (st a) = some (st b) := by rw [h]
end Go.Proofs.YtaiegbjgfdhgaaaGreatDoor
namespace Go.Bk
open Go.W Go.Bk Go.Proofs.YtaiegbjgfdhgaaaGreatDoor
theorem K5.h100 {f : Flag} (h : K5 f) : ∀ x ∈ f.hours, znw x.wind := fun x hx => zsv (h.hours x hx).1 (by omega)
theorem K5.s100 {f : Flag} (h : K5 f) : ∀ x ∈ f.seen, zmT x.hour := fun x hx => by
  have := h.seen x hx; have := h.nhours;exact ⟨by omega, by omega⟩
theorem K5.n100 {f : Flag} (h : K5 f) : zmT f.low ∧ zmT f.high ∧ zmT f.quiet := by
  have := h.low; have := h.quiet;exact ⟨⟨by omega, by omega⟩, ⟨by omega, by omega⟩, ⟨by omega, by omega⟩⟩
end Go.Bk
namespace Go.Proofs.YtaiegbjgfdhgaaaGreatDoor
open Go.W Go.Bk
def bT1 (b : xb) (k : Nat) : Bs := (zqi b ++ [10]) ++ (b.seen.take k).flatMap fun l => behind zoK zmY l ++ [10]
def bT2 (b : xb) (k j : Nat) : Bs := (bT1 b k ++ zoK) ++ ((gt b.seen k).take j).flatMap fun s => 32 :: zmY s
theorem znU {s : zms} (h : zmT s.minute ∧ znw s.cols ∧ znw s.rows) : (32 :: zmY s).length ≤ 17 := by
  have := (zn5 h.1).2; have := zpG h.2.1; have := zpG h.2.2;simp [zmY]; omega
end Go.Proofs.YtaiegbjgfdhgaaaGreatDoor
namespace Go.Bk
open Go.W Go.Bk Go.Proofs.YtaiegbjgfdhgaaaGreatDoor
theorem xv.s100 {b : xb} (h : xv b) : ∀ l ∈ b.seen, ∀ s ∈ l, zmT s.minute ∧ znw s.cols ∧ znw s.rows := fun _ hl _ hs => zt3 h (h.sn hl hs)
theorem xv.n100 {b : xb} (h : xv b) : zmT b.wide ∧ zmT b.deep ∧ zmT b.speed ∧ zmT b.last := by
  have := h.wide; have := h.deep; have := h.speed; have := h.last;exact ⟨⟨by omega, by omega⟩, ⟨by omega, by omega⟩, ⟨by omega, by omega⟩, ⟨by omega, by omega⟩⟩
end Go.Bk
namespace Go.Proofs.YtaiegbjgfdhgaaaGreatDoor
open Go.W Go.Bk
theorem zw4 {b : xb} (h : xv b) : ∀ l ∈ b.seen, (behind zoK zmY l ++ [10]).length ≤ 90 := fun l hl => by
  have h1 := zov (l := l) (f := fun s => 32 :: zmY s) (c := 17) fun s hs => znU (h.s100 l hl s hs);have h2 : l.length * 17 ≤ 5 * 17 := Nat.mul_le_mul_right 17 (h.rows l hl).1;simp only [behind, zoK, List.length_append, List.length_cons, List.length_nil]; omega
theorem zrf {b : xb} (h : xv b) (k : Nat) : (bT1 b k).length ≤ 400 := by
  have h1 := ztk (f := fun l => behind zoK zmY l ++ [10]) (c := 90) (zw4 h) h.n k;have := (zn5 h.n100.1).2; have := (zn5 h.n100.2.1).2; have := (zn5 h.n100.2.2.1).2; have := (zn5 h.n100.2.2.2).2;simp only [bT1, zqi, zph, List.length_append, List.length_cons, List.length_nil]; omega
theorem zrg {b : xb} (h : xv b) {k : Nat} (hk : k < b.seen.length) (j : Nat) : (bT2 b k j).length ≤ 500 := by
  have h1 := ztk (f := fun s => 32 :: zmY s) (c := 17) (fun s hs => znU (h.s100 _ (k5 hk) s hs)) (h.rows _ (k5 hk)).1 j;have := zrf h k;simp only [bT2, zoK, List.length_append, List.length_cons, List.length_nil]; omega
theorem zt0 (b : xb) : zmC [.s (zph ++ [32]), .i b.wide, .s [120], .i b.deep, .s [32, 118], .i b.speed, .s [32, 116], .i b.last, .s [10]] = bT1 b 0 := by simp [zmC, zn7, bT1, zqi]
theorem zt2 (b : xb) (k : Nat) : bT1 b k ++ zoK = bT2 b k 0 := by simp [bT2]
theorem zt1 {b : xb} {k j : Nat} (h : j < (gt b.seen k).length) : bT2 b k j ++ (32 :: zmY (gt (gt b.seen k) j)) = bT2 b k (j + 1) := by unfold bT2; rw [zoQ h]; simp
theorem zsZ {b : xb} {k : Nat} (h : k < b.seen.length) : bT2 b k (gt b.seen k).length ++ [10] = bT1 b (k + 1) := by
  unfold bT2 bT1; rw [zoQ h, List.take_length]; simp [behind]
theorem zuX (b : xb) : bT1 b b.seen.length = zn8 b := by
  simp [bT1, List.take_length, zn8, zug, unl, List.flatMap_map]
theorem zqV (s : zms) : zmC [.s [32], .i s.minute, .s [64], .p s.cols, .s [44], .p s.rows] = 32 :: zmY s := by simp [zmC, zn7, zmY]
theorem zr6 (b : xb) (m : k4) (hok : xv b) (D : Imm) {kM : Bool} (hL : LibD kM D) (hR : zmz D b m) (w : World) (hH : Holds D w) : z8 Tryz.prog 150 [znc b m] w (st (zn8 b)) := by
  unfold z8;obtain ⟨⟨ba, bn, bc⟩, ml⟩ := m;have hml : ml.length = b.seen.length := hR.len;have hRs0 : SlL D 1 (ml.map slC) ba bn := hR.sl;obtain rfl : bn = b.seen.length := by have := hRs0.len'; omega
  have hRr : ∀ i, i < b.seen.length → SlL D 5 ((gt b.seen i).map bsC) (gt ml i).a (gt ml i).n := hR.row;have hRn : ∀ i, i < b.seen.length → (gt ml i).n ≤ 9223372036854775807 := hR.nr;have nb : b.seen.length ≤ 9223372036854775807 := hR.n;refine en Tryz.func150 rfl Tryz.ntmps150 (Inv.start hH) (g [[1],[1,0]] ?_);refine WL.so (SO.box rfl rfl) rfl (zw fun b1 hb1 => ?_);refine g [[4],[18,2,1]] ?_;refine WL.so (SO.buildSlice1 UnF.h SzF.h ZvF.h rfl rfl rfl (vs := [_, _, _, _, _, _, _, _, _]) rfl rfl rfl) rfl ?_;rintro _ _ _ ⟨b25, hb25, rfl, rfl, rfl⟩;refine WL.cl rfl (fun w hI => show z8 Tryz.prog 130 _ w (st (bT1 b 0)) from zt0 b ▸ Kt [.s (zph ++ [32]), .i b.wide, .s [120], .i b.deep, .s [32, 118], .i b.speed, .s [32, 116], .i b.last, .s [10]] _ _ _ _ (hL.ext ((DExt.refl _ D).add (hI.apart _ _ (List.mem_of_getElem? (i := 0) rfl)) hb25)) (SlL.ofBlock (l := [.s (zph ++ [32]), .i b.wide, .s [120], .i b.deep, .s [32, 118], .i b.speed, .s [32, 116], .i b.last, .s [10]]) (f := zpB) (m := 1) (rest := []) (fun _ => rfl) (Imm.add_self _ _ _)) (oks (zqb rfl) (oks (i100 hok.n100.1) (oks (zqb rfl) (oks (i100 hok.n100.2.1) (oks (zqb rfl) (oks (i100 hok.n100.2.2.1) (oks (zqb rfl) (oks (i100 hok.n100.2.2.2) (oks (zqb rfl) (okn)))))))))) (by simp) _ (hI.freezeK 0 rfl).2.imm) (g [[5],[8,3,2,1]] ?_);refine WC.drop 1 (WC.loopT [] (fun k : Nat => [(1, pt b1), (3, st (bT1 b k)), (28, .slice ba b.seen.length bc), (29, nt b.seen.length), (30, nt k)]) (fun _ => [(b1, .cells (List.toArray [it b.wide, it b.deep, it b.speed, it b.last, .slice ba b.seen.length bc]) 56 (0, 0))]) (fun k => k ≤ b.seen.length) (fun k => b.seen.length - k) 0 (Nat.zero_le _) rfl ⟨rfl, rfl, rfl, rfl, rfl, trivial⟩ ?_);intro k hk;have hl1 := zrf hok k;refine g [[1],[5,1,3,28,29,30]] ?_;refine WC.cond rfl (fun c31 => ?_) (fun c31 => ?_)
  · try simp only [zq] at c31
    have hkl : k < b.seen.length := by omega
    have hr5 := (hok.rows _ (k5 hkl)).1;refine g [[5],[1,1,3,28,29,30]] ?_;refine WL.yd (Yd.ix rfl rfl (hRs0.addr k (by omega))) rfl (WL.yd (Yd.l1 rfl ((hRs0.at k (by omega)).rd 0 rfl)) rfl (g [[4],[1,5,1,3,28,29,30]] ?_));have hrow := hRr k hkl;have hrn := hRn k hkl;generalize gt ml k = q at hrow hrn ⊢;obtain ⟨ra, rn, rc⟩ := q;obtain rfl : rn = (gt b.seen k).length := hrow.len';dsimp only at hrow hrn;have hl2 : zoK.length = 4 := rfl;refine g [[1]] ?_;refine WL.yd (Yd.addS rfl rfl (by first | omega | ((try simp only [List.length_append, List.length_cons, List.length_nil]); omega))) rfl (g [[5],[1,3,5,1,28,29,30]] ?_);skip;refine g [[6]] ?_;refine WC.loopT [] (fun j : Nat => [(1, pt b1), (3, st (bT2 b k j)), (28, .slice ba b.seen.length bc), (29, nt b.seen.length), (30, nt k), (36, .slice ra (gt b.seen k).length rc), (37, nt (gt b.seen k).length), (38, nt j)]) (fun _ => [(b1, .cells (List.toArray [it b.wide, it b.deep, it b.speed, it b.last, .slice ba b.seen.length bc]) 56 (0, 0))]) (fun j => j ≤ (gt b.seen k).length) (fun j => (gt b.seen k).length - j) 0 (Nat.zero_le _) rfl ⟨rfl, zwh (zt2 b k), rfl, rfl, rfl, rfl, rfl, rfl, trivial⟩ ?_;intro j hj;have hl2 := zrg hok hkl j;refine g [[1],[5,1,3,28,29,30,36,37,38]] ?_;refine WC.cond rfl (fun c39 => ?_) (fun c39 => ?_)
    · try simp only [zq] at c39
      have hjl : j < (gt b.seen k).length := by omega
      have hx := hok.s100 _ (k5 hkl) _ (k5 hjl);have hl3 := znU hx;refine g [[5],[1,1,3,28,29,30,36,37,38]] ?_;refine WL.yd (Yd.ix rfl rfl (hrow.addr j (by omega))) rfl (WL.yd (Yd.lV [_, _, _, _, _] rfl ((hrow.at j (by omega)).rdn 0 5 rfl)) rfl ?_);refine WL.so (SO.alloc ZvF.h rfl) rfl (zw fun b7 hb7 => ?_);refine g [[3],[14,7,1,3,28,29,30,36,37,38]] ?_;refine WL.so (SO.buildSlice1 UnF.h SzF.h ZvF.h rfl rfl rfl (vs := [_, _, _, _, _, _]) rfl rfl rfl) rfl ?_;rintro _ _ _ ⟨b55, hb55, rfl, rfl, rfl⟩;refine WL.cl rfl (fun w hI => show z8 Tryz.prog 130 _ w (st (32 :: zmY (gt (gt b.seen k) j))) from zqV (gt (gt b.seen k) j) ▸ Kt [.s [32], .i (gt (gt b.seen k) j).minute, .s [64], .p (gt (gt b.seen k) j).cols, .s [44], .p (gt (gt b.seen k) j).rows] _ _ _ _ (hL.ext ((DExt.refl _ D).add (hI.apart _ _ (List.mem_of_getElem? (i := 0) rfl)) hb55)) (SlL.ofBlock (l := [.s [32], .i (gt (gt b.seen k) j).minute, .s [64], .p (gt (gt b.seen k) j).cols, .s [44], .p (gt (gt b.seen k) j).rows]) (f := zpB) (m := 1) (rest := []) (fun _ => rfl) (Imm.add_self _ _ _)) (oks (zqb rfl) (oks (i100 hx.1) (oks (zqb rfl) (oks ⟨i100 hx.2.1.1, i100 hx.2.1.2⟩ (oks (zqb rfl) (oks ⟨i100 hx.2.2.1, i100 hx.2.2.2⟩ (okn))))))) (by simp) _ (hI.freezeK 0 rfl).2.imm) ?_;refine WL.yd (Yd.addS rfl rfl (by first | omega | ((try simp only [List.length_append, List.length_cons, List.length_nil]); omega))) rfl (g [[4],[4,3,1,28,29,30,36,37,38]] ?_);exact WP.againT (j + 1) hjl (by omega) [_, _] _ rfl rfl ⟨rfl, zwh (zt1 hjl), rfl, rfl, rfl, rfl, rfl, rfl, trivial⟩
    try simp only [zq] at c39
    obtain rfl : j = (gt b.seen k).length := by omega
    refine g [[5],[1,1,3,28,29,30]] ?_;have hl2 := zrg hok hkl (gt b.seen k).length;refine g [[1]] ?_;refine WL.yd (Yd.addS rfl rfl (by first | omega | ((try simp only [List.length_append, List.length_cons, List.length_nil]); omega))) rfl (g [[4],[4,3,1,28,29,30]] ?_);exact WP.againT (k + 1) hkl (by omega) [] _ rfl rfl ⟨rfl, zwh (zsZ hkl), rfl, rfl, rfl, trivial⟩
  try simp only [zq] at c31
  obtain rfl : k = b.seen.length := by omega
  refine g [[6],[6,3]] ?_;refine WP.ret1 rfl rfl rfl (RV.tmp rfl) (fun w hI => ⟨by rw [zuX], hI.keep⟩)
theorem zyC : zj Tryz.prog 139 [.int .i64 0, .int .i64 0, .int .i64 0] [(0, 1), (1, 1), (2, 1)] := ⟨⟨_, Tryz.zeroValue139, rfl⟩, _, Tryz.underlying139, fun w => by simp [Tryz.sizeOf3]⟩
abbrev zwJ := SaF.mk zyC
attribute [instance] zwJ
def zyh (x : Surf) (W V : Sl) (o : Option Ow) : List Value := [it x.rows, it x.step, slV W, slV V, owV o x.huts.length]
structure zDv (w0 : World) (b : Nat) (k : Nat) (x : Surf) (W V : Sl) (o : Option Ow) (D : Imm) (h : Hp) : Prop where
  rw : SlL D 2 (x.water.map spC) W.a W.n
  rv : SlL D 2 (x.waves.map spC) V.a V.n
  ro : owP w0 o x.huts.length 3
  nw : W.n ≤ 2 ^ 30
  nv : V.n ≤ 2 ^ 30
  n : x.huts.length ≤ k
  e : h = (b, .cells (zyh x W V o).toArray 49 (0, 0)) :: owH o 139 (x.huts.flatMap hutC) []
def zwl (w0 : World) (b : Nat) (k : Nat) (x : Surf) (D : Imm) (h : Hp) : Prop := ∃ W V o, zDv w0 b k x W V o D h
theorem zwl.ext {w w0 : World} {b k : Nat} {x : Surf} {D D' : Imm} {h : Hp} (hD : DExt w D D') (hS : zwl w0 b k x D h) : zwl w0 b k x D' h := by
  obtain ⟨W, V, o, hS⟩ := hS;exact ⟨W, V, o, hS.rw.ext hD, hS.rv.ext hD, hS.ro, hS.nw, hS.nv, hS.n, hS.e⟩
theorem zyL : zj Tryz.prog 241 [.nilFunc] [(0, 1)] := ⟨⟨_, Tryz.zeroValue241, rfl⟩, _, Tryz.underlying241, fun w => by simp [Tryz.sizeOf239]⟩
abbrev zwS := SaF.mk zyL
attribute [instance] zwS
theorem ze0 : zj Tryz.prog 247 [.nilFunc] [(0, 1)] := ⟨⟨_, Tryz.zeroValue247, rfl⟩, _, Tryz.underlying247, fun w => by simp [Tryz.sizeOf245]⟩
abbrev zbR := SaF.mk ze0
attribute [instance] zbR
def zxu (x : Flag) (H S : Sl) : List Value := [it x.low, it x.high, it x.quiet, slV H, slV S]
structure zz9 (b : Nat) (x : Flag) (H S : Sl) (D : Imm) (h : Hp) : Prop where
  rh : SlL D 3 (x.hours.map zts) H.a H.n
  rs : SlL D 2 (x.seen.map zsr) S.a S.n
  nh : H.n ≤ 2 ^ 30
  ns : S.n ≤ 2 ^ 30
  e : h = [(b, .cells (zxu x H S).toArray 53 (0, 0))]
def zve (_ : World) (b : Nat) (_ : Nat) (x : Flag) (D : Imm) (h : Hp) : Prop := ∃ H S, zz9 b x H S D h
theorem zve.ext {w w0 : World} {b k : Nat} {x : Flag} {D D' : Imm} {h : Hp} (hD : DExt w D D') (hS : zve w0 b k x D h) : zve w0 b k x D' h := by
  obtain ⟨H, S, hS⟩ := hS;exact ⟨H, S, hS.rh.ext hD, hS.rs.ext hD, hS.nh, hS.ns, hS.e⟩
end Go.Proofs.YtaiegbjgfdhgaaaGreatDoor
