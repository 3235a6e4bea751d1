import Derived.Lib.ItoaNum
import Derived.Lib.AtoiAll
import Derived.Lib.IndexMore
import Derived.Lib.SlTrimSet
import Derived.Lib.SplitLaws
import Derived.Lib.Strings
set_option linter.unusedSimpArgs false
set_option linter.unusedVariables false
set_option linter.all false
set_option maxRecDepth 100000
set_option maxHeartbeats 1000000
/- Surfs, flags and boats in plain words: which are valid, and their texts. -/
namespace Go.Bk
abbrev Bs := List UInt8
structure Sp where
  lo : Int
  hi : Int
deriving DecidableEq, Inhabited
structure Hut where
  floor : Int
  brake : Int
  row : Int
deriving DecidableEq, Inhabited
structure Surf where
  rows : Int
  step : Int
  water : List Sp
  waves : List Sp
  huts : List Hut
deriving DecidableEq, Inhabited
structure FHour where
  wind : Sp
  thunder : Int
deriving DecidableEq, Inhabited
structure FSeen where
  hour : Int
  up : Bool
deriving DecidableEq, Inhabited
structure Flag where
  low : Int
  high : Int
  quiet : Int
  hours : List FHour
  seen : List FSeen
deriving DecidableEq, Inhabited
structure BSeen where
  minute : Int
  cols : Sp
  rows : Sp
deriving DecidableEq, Inhabited
structure Boats where
  wide : Int
  deep : Int
  speed : Int
  last : Int
  seen : List (List BSeen)
deriving DecidableEq, Inhabited

/-! ### which are valid -/
def inB (n lo hi : Int) : Bool := decide (lo ≤ n ∧ n ≤ hi)
def spB (s : Sp) (lo hi : Int) : Bool := decide (lo ≤ s.lo ∧ s.lo ≤ s.hi ∧ s.hi ≤ hi)
def nearB (s : Sp) (hi : Int) : Bool := spB s 0 hi && decide (s.hi - s.lo ≤ 3)
def hutB (rows : Int) (h : Hut) : Bool := inB h.floor 0 40 && inB h.brake 0 10 && inB h.row 0 (rows - 1)
def surfB (s : Surf) : Bool := inB s.rows 1 6 && inB s.step 0 4 && decide (s.water.length ≤ 8) && decide (s.waves.length = s.water.length) && decide (s.huts.length ≤ 5)
  && s.water.all (nearB · 30) && s.waves.all (nearB · 10) && s.huts.all (hutB s.rows)
def hourB (h : FHour) : Bool := spB h.wind 0 12 && inB h.thunder 0 2
def flagB (f : Flag) : Bool := decide (1 ≤ f.low ∧ f.low ≤ f.high ∧ f.high ≤ 12) && inB f.quiet 1 4 && decide (f.hours.length ≤ 9) && decide (f.seen.length ≤ 8)
  && f.hours.all hourB && f.seen.all fun s => inB s.hour 0 ((f.hours.length : Int) - 1)
def rowB (b : Boats) : Int → List BSeen → Bool
  | _, [] => true
  | m, s :: l => inB s.minute m b.last && spB s.cols 0 (b.wide - 1) && spB s.rows 0 (b.deep - 1) && rowB b s.minute l
def boatsB (b : Boats) : Bool := inB b.wide 1 8 && inB b.deep 1 6 && inB b.speed 0 3 && inB b.last 0 12 && decide (b.seen.length ≤ 4)
  && b.seen.all fun l => decide (l.length ≤ 5) && rowB b 0 l

/-! ### texts -/
abbrev num (n : Int) : Bs := Lib.itoa n
def two (n : Int) : Bs := if n < 10 then 32 :: num n else num n
def unl (ls : List Bs) : Bs := ls.flatMap (· ++ [10])
def surfW : Bs := [115, 117, 114, 102, 32]
def waterW : Bs := [119, 97, 116, 101, 114]
def wavesW : Bs := [119, 97, 118, 101, 115]
def hutW : Bs := [104, 117, 116, 32]
def flagW : Bs := [102, 108, 97, 103, 32]
def hoursW : Bs := [104, 111, 117, 114, 115]
def seenW : Bs := [115, 101, 101, 110]
def boatsW : Bs := [98, 111, 97, 116, 115]
def boatW : Bs := [98, 111, 97, 116]
def colT (x : Sp) : Bs := 32 :: (two x.lo ++ 45 :: two x.hi)
def heightsT (w : Bs) (l : List Sp) : Bs := w ++ l.flatMap colT
def hutT (h : Hut) : Bs := hutW ++ (two h.floor ++ 32 :: (two h.brake ++ 32 :: num h.row))
def surf0 (s : Surf) : Bs := surfW ++ (num s.rows ++ 120 :: num s.step)
def surfL (s : Surf) : List Bs := surf0 s :: heightsT waterW s.water :: heightsT wavesW s.waves :: s.huts.map hutT
def putSurf (s : Surf) : Bs := unl (surfL s)
def spanT (s : Sp) : Bs := if s.lo = s.hi then num s.lo else num s.lo ++ 46 :: 46 :: num s.hi
def markT (t : Int) : Bs := if t = 1 then [63] else if t = 2 then [33] else []
def hourT (h : FHour) : Bs := spanT h.wind ++ markT h.thunder
def seenT (s : FSeen) : Bs := num s.hour ++ [if s.up then 43 else 45]
def behind {α : Type} (w : Bs) (f : α → Bs) (l : List α) : Bs := w ++ l.flatMap fun x => 32 :: f x
def flag0 (f : Flag) : Bs := flagW ++ (num f.low ++ 45 :: (num f.high ++ 47 :: num f.quiet))
def flagL (f : Flag) : List Bs := [flag0 f, behind hoursW hourT f.hours, behind seenW seenT f.seen]
def putFlag (f : Flag) : Bs := unl (flagL f)
def bseenT (s : BSeen) : Bs := num s.minute ++ 64 :: (spanT s.cols ++ 44 :: spanT s.rows)
def boats0 (b : Boats) : Bs := boatsW ++ 32 :: (num b.wide ++ 120 :: (num b.deep ++ 32 :: 118 :: (num b.speed ++ 32 :: 116 :: num b.last)))
def boatsL (b : Boats) : List Bs := boats0 b :: b.seen.map (behind boatW bseenT)
def putBoats (b : Boats) : Bs := unl (boatsL b)

/-! ### numbers below 100 -/
def small (k : Nat) : Bs := if k < 10 then [UInt8.ofNat (48 + k)] else [UInt8.ofNat (48 + k / 10), UInt8.ofNat (48 + k % 10)]
theorem num_small {k : Nat} (h : k < 100) : num (k : Int) = small k := by
  have h0 : ¬ (k : Int) < 0 := by omega
  unfold num Lib.itoa small
  rw [if_neg h0, Int.toNat_natCast]
  by_cases h1 : k < 10
  · rw [if_pos h1, Lib.decDigits_one h1]
  · rw [if_neg h1, Lib.decDigits_two h1 h]
def In100 (n : Int) : Prop := 0 ≤ n ∧ n < 100
theorem In100.nat {n : Int} (h : In100 n) : ∃ k : Nat, k < 100 ∧ n = (k : Int) ∧ num n = small k :=
  ⟨n.toNat, by have := h.1; have := h.2; omega, by have := h.1; omega, by
    have h1 := h.1; have h2 := h.2
    rw [← num_small (by omega)]
    congr 1; omega⟩
def dig (b : UInt8) : Bool := decide (48 ≤ b.toNat ∧ b.toNat ≤ 57)
theorem small_len : ∀ k : Fin 100, 1 ≤ (small k.val).length ∧ (small k.val).length ≤ 2 := by decide +kernel
theorem num_len {n : Int} (h : In100 n) : 1 ≤ (num n).length ∧ (num n).length ≤ 2 := by
  obtain ⟨k, hk, _, e⟩ := h.nat
  rw [e]
  exact small_len ⟨k, hk⟩
theorem two_len {n : Int} (h : In100 n) : (two n).length = 2 := by
  obtain ⟨k, hk, rfl, e⟩ := h.nat
  unfold two
  rw [e]
  unfold small
  by_cases h1 : k < 10
  · rw [if_pos (by omega), if_pos h1]; rfl
  · rw [if_neg (by omega), if_neg h1]; rfl
/-! ### lines -/
/-- no line feed in it -/
def flat (l : Bs) : Prop := (10 : UInt8) ∉ l
theorem unl_cons (l : Bs) (ls : List Bs) : unl (l :: ls) = l ++ 10 :: unl ls := by simp [unl]
/-- the lines of a text, each with its line feed (the last one may have none) -/
def lnsB : Bs → Bs → List Bs
  | acc, [] => if acc = [] then [] else [acc]
  | acc, c :: r => if c = 10 then (acc ++ [10]) :: lnsB [] r else lnsB (acc ++ [c]) r
theorem lnsB_flat : ∀ (l acc rest : Bs), flat l → lnsB acc (l ++ 10 :: rest) = (acc ++ l ++ [10]) :: lnsB [] rest
  | [], acc, rest, _ => by simp [lnsB]
  | c :: r, acc, rest, h => by
    have hc : c ≠ 10 := fun e => h (by simp [e])
    rw [List.cons_append, lnsB, if_neg hc, lnsB_flat r (acc ++ [c]) rest (fun hm => h (by simp [hm]))]
    simp
/-- the lines of a text, without line feeds -/
def lns (s : Bs) : List Bs := (lnsB [] s).map fun l => Lib.trimSuffix l [10]
/-! ### what is valid has small numbers -/
structure SpOk (s : Sp) (hi : Int) : Prop where
  lo : 0 ≤ s.lo
  le : s.lo ≤ s.hi
  hi : s.hi ≤ hi
theorem spB_iff {s : Sp} {lo hi : Int} : spB s lo hi = true ↔ lo ≤ s.lo ∧ s.lo ≤ s.hi ∧ s.hi ≤ hi := by simp [spB]
theorem inB_iff {n lo hi : Int} : inB n lo hi = true ↔ lo ≤ n ∧ n ≤ hi := by simp [inB]
def Sp100 (s : Sp) : Prop := In100 s.lo ∧ In100 s.hi
theorem sp100 {s : Sp} {hi : Int} (h : spB s 0 hi = true) (hh : hi < 100) : Sp100 s := by
  rw [spB_iff] at h
  exact ⟨⟨by omega, by omega⟩, ⟨by omega, by omega⟩⟩
structure SurfOk (s : Surf) : Prop where
  rows : 1 ≤ s.rows ∧ s.rows ≤ 6
  step : 0 ≤ s.step ∧ s.step ≤ 4
  nwater : s.water.length ≤ 8
  same : s.waves.length = s.water.length
  nhuts : s.huts.length ≤ 5
  water : ∀ x ∈ s.water, spB x 0 30 = true ∧ x.hi - x.lo ≤ 3
  waves : ∀ x ∈ s.waves, spB x 0 10 = true ∧ x.hi - x.lo ≤ 3
  huts : ∀ h ∈ s.huts, (0 ≤ h.floor ∧ h.floor ≤ 40) ∧ (0 ≤ h.brake ∧ h.brake ≤ 10) ∧ 0 ≤ h.row ∧ h.row ≤ s.rows - 1
theorem surfB_iff {s : Surf} : surfB s = true ↔ SurfOk s := by
  simp only [surfB, hutB, nearB, inB, Bool.and_eq_true, List.all_eq_true, decide_eq_true_eq]
  constructor
  · rintro ⟨⟨⟨⟨⟨⟨⟨a, b⟩, c⟩, d⟩, e⟩, f⟩, g⟩, h⟩
    exact ⟨a, b, c, d, e, f, g, fun x hx => ⟨(h x hx).1.1, (h x hx).1.2, (h x hx).2⟩⟩
  · rintro ⟨a, b, c, d, e, f, g, h⟩
    exact ⟨⟨⟨⟨⟨⟨⟨a, b⟩, c⟩, d⟩, e⟩, f⟩, g⟩, fun x hx => ⟨⟨(h x hx).1, (h x hx).2.1⟩, (h x hx).2.2⟩⟩
structure FlagOk (f : Flag) : Prop where
  low : 1 ≤ f.low ∧ f.low ≤ f.high ∧ f.high ≤ 12
  quiet : 1 ≤ f.quiet ∧ f.quiet ≤ 4
  nhours : f.hours.length ≤ 9
  nseen : f.seen.length ≤ 8
  hours : ∀ h ∈ f.hours, spB h.wind 0 12 = true ∧ 0 ≤ h.thunder ∧ h.thunder ≤ 2
  seen : ∀ s ∈ f.seen, 0 ≤ s.hour ∧ s.hour ≤ (f.hours.length : Int) - 1
theorem flagB_iff {f : Flag} : flagB f = true ↔ FlagOk f := by
  simp only [flagB, hourB, inB, Bool.and_eq_true, List.all_eq_true, decide_eq_true_eq]
  constructor
  · rintro ⟨⟨⟨⟨⟨a, b⟩, c⟩, d⟩, e⟩, f⟩
    exact ⟨a, b, c, d, e, f⟩
  · rintro ⟨a, b, c, d, e, f⟩
    exact ⟨⟨⟨⟨⟨a, b⟩, c⟩, d⟩, e⟩, f⟩
structure BSeenOk (b : Boats) (s : BSeen) : Prop where
  minute : 0 ≤ s.minute ∧ s.minute ≤ b.last
  cols : spB s.cols 0 (b.wide - 1) = true
  rows : spB s.rows 0 (b.deep - 1) = true
theorem rowB_ok {b : Boats} : ∀ (l : List BSeen) (m : Int), 0 ≤ m → rowB b m l = true → ∀ s ∈ l, BSeenOk b s
  | [], _, _, _ => by simp
  | s :: l, m, hm, h => by
    simp only [rowB, inB, Bool.and_eq_true, decide_eq_true_eq] at h
    obtain ⟨⟨⟨h1, h2⟩, h3⟩, h4⟩ := h
    intro x hx
    rcases List.mem_cons.1 hx with rfl | hx
    · exact ⟨⟨by omega, h1.2⟩, h2, h3⟩
    · exact rowB_ok l s.minute (by omega) h4 x hx
structure BoatsOk (b : Boats) : Prop where
  wide : 1 ≤ b.wide ∧ b.wide ≤ 8
  deep : 1 ≤ b.deep ∧ b.deep ≤ 6
  speed : 0 ≤ b.speed ∧ b.speed ≤ 3
  last : 0 ≤ b.last ∧ b.last ≤ 12
  n : b.seen.length ≤ 4
  rows : ∀ l ∈ b.seen, l.length ≤ 5 ∧ rowB b 0 l = true
theorem boatsB_iff {b : Boats} : boatsB b = true ↔ BoatsOk b := by
  simp only [boatsB, inB, Bool.and_eq_true, List.all_eq_true, decide_eq_true_eq]
  constructor
  · rintro ⟨⟨⟨⟨⟨a, b⟩, c⟩, d⟩, e⟩, f⟩
    exact ⟨a, b, c, d, e, f⟩
  · rintro ⟨a, b, c, d, e, f⟩
    exact ⟨⟨⟨⟨⟨a, b⟩, c⟩, d⟩, e⟩, f⟩
theorem BoatsOk.sn {b : Boats} (h : BoatsOk b) {l : List BSeen} (hl : l ∈ b.seen) {s : BSeen} (hs : s ∈ l) : BSeenOk b s := rowB_ok l 0 (Int.le_refl _) (h.rows l hl).2 s hs

/-! ### lines without line feeds -/
theorem bseen100 {b : Boats} (h : BoatsOk b) {s : BSeen} (hs : BSeenOk b s) : In100 s.minute ∧ Sp100 s.cols ∧ Sp100 s.rows := by
  have h1 := h.wide; have h2 := h.deep; have h4 := h.last; have := hs.minute
  exact ⟨⟨by omega, by omega⟩, sp100 hs.cols (by omega), sp100 hs.rows (by omega)⟩
end Go.Bk
/- What the program reads of a text; what is written is read. -/
namespace Go.Bk

/-! ### parts -/
theorem trimPrefix_app (p s : Bs) : Lib.trimPrefix (p ++ s) p = s := by
  unfold Lib.trimPrefix Lib.hasPrefix
  rw [if_pos (by rw [List.isPrefixOf_iff_prefix]; exact List.prefix_append p s)]; simp
/-- the number that a part is, behind blanks -/
def numP (s : Bs) : Option Int := match Lib.atoiAll (Lib.trimLeftS s [32]) with | .ok v => some v | _ => none
/-- a part that is two numbers -/
def pairP (s b : Bs) : Option (Int × Int) :=
  if (Lib.cut s b).2.2 = true then
    match numP (Lib.cut s b).1, numP (Lib.cut s b).2.1 with
    | some x, some y => some (x, y)
    | _, _ => none
  else none
/-- a part that is a span -/
def spanP (s : Bs) : Option Sp :=
  match numP (Lib.cut s [46, 46]).1, numP (if (Lib.cut s [46, 46]).2.2 = true then (Lib.cut s [46, 46]).2.1 else (Lib.cut s [46, 46]).1) with
  | some x, some y => some ⟨x, y⟩
  | _, _ => none
/-- spans in two columns each -/
def colsP : Nat → Bs → Option (List Sp)
  | 0, _ => some []
  | n + 1, s => if s = [] then some [] else match pairP (s.take 6) [45] with
    | none => none
    | some (a, b) => (colsP n (s.drop 6)).map (⟨a, b⟩ :: ·)
def columnsP (line w : Bs) : Option (List Sp) :=
  if Lib.hasPrefix line w = true ∧ (line.length - w.length) % 6 = 0 then colsP (line.length + 1) (line.drop w.length) else none
theorem colT_len {x : Sp} (h : Sp100 x) : (colT x).length = 6 := by
  unfold colT
  simp [two_len h.1, two_len h.2]
/-- the parts of a line, with a blank before each -/
def takenP {α : Type} (take : Bs → Option α) : Nat → Bs → Option (List α)
  | 0, _ => some []
  | _ + 1, [] => some []
  | n + 1, c :: r => if c = 32 then match take (r.takeWhile (· != 32)) with
      | none => none
      | some x => (takenP take n (r.dropWhile (· != 32))).map (x :: ·)
    else none
def listP {α : Type} (take : Bs → Option α) (line w : Bs) : Option (List α) :=
  if Lib.hasPrefix line w = true then takenP take (line.length + 1) (line.drop w.length) else none
/-! ### a text, line by line -/
def foldT {X : Type} (take : X → Nat → Bs → Option X) : X → Nat → List Bs → Option X
  | x, _, [] => some x
  | x, k, l :: ls => match take x k l with
    | none => none
    | some y => foldT take y (k + 1) ls
/-- what is read: the thing and its error -/
def readX {X : Type} (z : X) (take : X → Nat → Bs → Option X) (is : X → Bool) (put : X → Bs) (s : Bs) : X × Int :=
  if 1200 < s.length then (z, 3) else match foldT take z 0 (lns s) with
    | none => (z, 8)
    | some x => if is x = true ∧ put x = s then (x, 0) else (z, 8)

def surfZ : Surf := ⟨0, 0, [], [], []⟩
def surfP (x : Surf) (k : Nat) (l : Bs) : Option Surf :=
  match k with
  | 0 => (pairP (Lib.trimPrefix l surfW) [120]).map fun p => { x with rows := p.1, step := p.2 }
  | 1 => (columnsP l waterW).map fun c => { x with water := c }
  | 2 => (columnsP l wavesW).map fun c => { x with waves := c }
  | _ => if l.length = 11 then
      match numP ((l.drop 4).take 2), numP ((l.drop 7).take 2), numP (l.drop 10) with
      | some a, some b, some c => some { x with huts := x.huts ++ [⟨a, b, c⟩] }
      | _, _, _ => none
    else none
def flagZ : Flag := ⟨0, 0, 0, [], []⟩
def hourP (s : Bs) : Option FHour :=
  match (match s.drop (Lib.trimRightS s [63, 33]).length with | [] => some 0 | [63] => some 1 | [33] => some 2 | _ => (none : Option Int)), spanP (Lib.trimRightS s [63, 33]) with
  | some t, some w => some ⟨w, t⟩
  | _, _ => none
def fseenP (s : Bs) : Option FSeen :=
  (numP (Lib.trimSuffix (Lib.trimSuffix s [43]) [45])).map fun n => ⟨n, Lib.hasSuffix s [43]⟩
def flagP (x : Flag) (k : Nat) (l : Bs) : Option Flag :=
  match k with
  | 0 => if (Lib.cut (Lib.trimPrefix l flagW) [45]).2.2 = true then
      match numP (Lib.cut (Lib.trimPrefix l flagW) [45]).1, pairP (Lib.cut (Lib.trimPrefix l flagW) [45]).2.1 [47] with
      | some a, some p => some { x with low := a, high := p.1, quiet := p.2 }
      | _, _ => none
    else none
  | 1 => (listP hourP l hoursW).map fun h => { x with hours := h }
  | 2 => (listP fseenP l seenW).map fun h => { x with seen := h }
  | _ => none
def boatsZ : Boats := ⟨0, 0, 0, 0, []⟩
def bseenP (s : Bs) : Option BSeen :=
  if (Lib.cut s [64]).2.2 = true ∧ (Lib.cut (Lib.cut s [64]).2.1 [44]).2.2 = true then
    match numP (Lib.cut s [64]).1, spanP (Lib.cut (Lib.cut s [64]).2.1 [44]).1, spanP (Lib.cut (Lib.cut s [64]).2.1 [44]).2.1 with
    | some m, some c, some r => some ⟨m, c, r⟩
    | _, _, _ => none
  else none
def boatsP (x : Boats) (k : Nat) (l : Bs) : Option Boats :=
  match k with
  | 0 => match Lib.split l [32] with
    | [_, a, b, c] => match pairP a [120], numP (Lib.trimPrefix b [118]), numP (Lib.trimPrefix c [116]) with
      | some p, some u, some v => some { x with wide := p.1, deep := p.2, speed := u, last := v }
      | _, _, _ => none
    | _ => none
  | _ => (listP bseenP l boatW).map fun h => { x with seen := x.seen ++ [h] }

/-! ### what is written is read -/
theorem readX_of {X : Type} {z : X} {take : X → Nat → Bs → Option X} {is : X → Bool} {put : X → Bs} {s : Bs} {x : X} (h : readX z take is put s = (x, 0)) : is x = true ∧ put x = s ∧ s.length ≤ 1200 := by
  unfold readX at h
  split at h
  · cases h
  · split at h
    · cases h
    · split at h
      · rename_i hl _ _ _ hc
        cases h
        exact ⟨hc.1, hc.2, by omega⟩
      · cases h
theorem readX_no {X : Type} {z : X} {take : X → Nat → Bs → Option X} {is : X → Bool} {put : X → Bs} {s : Bs} (h : (readX z take is put s).2 ≠ 0) : readX z take is put s = (z, if 1200 < s.length then 3 else 8) := by
  unfold readX at h ⊢
  split
  · rfl
  · split
    · rfl
    · split
      · rename_i hl _ _ e hc
        rw [if_neg hl, e] at h
        simp only [hc, and_self, if_true] at h
        exact absurd rfl h
      · rfl
theorem readX_err {X : Type} {z : X} {take : X → Nat → Bs → Option X} {is : X → Bool} {put : X → Bs} {s : Bs} (h : (readX z take is put s).2 = 0) : ∃ x, readX z take is put s = (x, 0) := ⟨(readX z take is put s).1, Prod.ext rfl h⟩
abbrev readSurf (s : Bs) : Surf × Int := readX surfZ surfP surfB putSurf s
abbrev readFlag (s : Bs) : Flag × Int := readX flagZ flagP flagB putFlag s
abbrev readBoats (s : Bs) : Boats × Int := readX boatsZ boatsP boatsB putBoats s
end Go.Bk
/- What the document reads of a text; it reads what is written, and so does the program. -/
namespace Go.Bk
/-- the parts of a text between bytes of some kind -/
def partsR (c : UInt8) : Bs → Bs → List Bs
  | acc, [] => [acc]
  | acc, d :: r => if d = c then acc :: partsR c [] r else partsR c (acc ++ [d]) r
def linesR (s : Bs) : List Bs := if (partsR 10 [] s).getLast? = some [] then (partsR 10 [] s).dropLast else []
/-- digits, at most so many -/
def digR : Nat → Int → Bs → Int × Bs
  | 0, n, s => (n, s)
  | _ + 1, n, [] => (n, [])
  | k + 1, n, c :: r => if dig c = true then digR k (10 * n + ((c.toNat : Int) - 48)) r else (n, c :: r)
def valueR (s : Bs) : Int × Bs := digR (8 - (s.takeWhile (· == 32)).length) 0 (s.dropWhile (· == 32))
def afterR (s : Bs) (many : Nat) : Int × Bs := if s.length < many then (0, []) else valueR (s.drop many)
def spanR (s b : Bs) : Sp × Bs :=
  if Lib.hasPrefix (valueR s).2 b = true then (⟨(valueR s).1, (afterR (valueR s).2 b.length).1⟩, (afterR (valueR s).2 b.length).2) else (⟨(valueR s).1, (valueR s).1⟩, (valueR s).2)
/-- no digit at the beginning -/
def Stop (t : Bs) : Prop := ∀ c r, t = c :: r → dig c = false
/-! ### the document's reading -/
end Go.Bk
/- Horses in plain words: which are valid, their book, its sums; what the program reads of a book and how it mends one. -/
namespace Go.Bk
structure Mv where
  at_ : Int
  place : Int
  long : Sp
deriving DecidableEq, Inhabited
structure Hors where
  pace : Int
  moves : List Mv
deriving DecidableEq, Inhabited
def moveB (m : Mv) : Bool := inB m.at_ 0 200 && inB m.place 0 30 && spB m.long 1 20
def horsB (h : Hors) : Bool := inB h.pace 0 3 && decide (h.moves.length ≤ 7) && h.moves.all moveB
structure HorsOk (h : Hors) : Prop where
  pace : 0 ≤ h.pace ∧ h.pace ≤ 3
  n : h.moves.length ≤ 7
  moves : ∀ m ∈ h.moves, (0 ≤ m.at_ ∧ m.at_ ≤ 200) ∧ (0 ≤ m.place ∧ m.place ≤ 30) ∧ 1 ≤ m.long.lo ∧ m.long.lo ≤ m.long.hi ∧ m.long.hi ≤ 20
theorem horsB_iff {h : Hors} : horsB h = true ↔ HorsOk h := by
  simp only [horsB, moveB, inB, spB, Bool.and_eq_true, List.all_eq_true, decide_eq_true_eq]
  constructor
  · rintro ⟨⟨a, b⟩, c⟩
    exact ⟨a, b, fun m hm => ⟨(c m hm).1.1, (c m hm).1.2, (c m hm).2⟩⟩
  · rintro ⟨a, b, c⟩
    exact ⟨⟨a, b⟩, fun m hm => ⟨⟨(c m hm).1, (c m hm).2.1⟩, (c m hm).2.2⟩⟩
/-- a number below 125 * 125 in bytes -/
def digL (n : Nat) : Bs := if n < 125 then [UInt8.ofNat (n + 125)] else [UInt8.ofNat (n / 125), UInt8.ofNat (n % 125 + 125)]
def moveN (m : Mv) : List Nat := [m.at_.toNat, m.place.toNat, m.long.lo.toNat, (m.long.hi - m.long.lo).toNat]
def contentL (h : Hors) : Bs := (digL h.pace.toNat ++ digL h.moves.length) ++ h.moves.flatMap fun m => (moveN m).flatMap digL
/-- the two sums, from a place on -/
def sumF : Nat → Nat → Nat → Bs → Nat × Nat
  | _, p, q, [] => (p, q)
  | i, p, q, x :: r => sumF (i + 1) ((p + x.toNat) % 251) ((q + (i + 1) % 251 * x.toNat) % 251) r
def sumsL (l : Bs) : Nat × Nat := sumF 0 0 0 l
/-- .. taken away -/
def takF : Nat → Nat → Nat → Bs → Nat × Nat
  | _, p, q, [] => (p, q)
  | i, p, q, x :: r => takF (i + 1) ((p + (251 - x.toNat % 251)) % 251) ((q + (i + 1) % 251 * (251 - x.toNat % 251)) % 251) r
def sealL (l : Bs) : Bs := l ++ [UInt8.ofNat (sumsL l).1, UInt8.ofNat (sumsL l).2]
def bookL (h : Hors) : Bs := sealL (contentL h)
/-- the numbers of bytes; none if there are too many digits, or none is the last one -/
def numsP : Nat → Nat → List Nat → Bs → Option (List Nat)
  | _, many, out, [] => if many = 0 then some out else none
  | n, many, out, x :: r => if many < 3 then
      if 125 ≤ x.toNat then numsP 0 0 (out ++ [125 * n + x.toNat % 125]) r else numsP (125 * n + x.toNat % 125) (many + 1) out r
    else none
/-- moves of numbers -/
def movesN : List Nat → List Mv
  | a :: b :: c :: d :: r => ⟨a, b, ⟨c, (c : Int) + d⟩⟩ :: movesN r
  | _ => []
def horsN (l : List Nat) : Hors := ⟨((l.getD 0 0 : Nat) : Int), movesN (l.drop 2)⟩
def horsZ : Hors := ⟨0, []⟩
/-- why bytes are no book at all: too long, or not its form -/
def openE (b : Bs) : Int := if 250 < b.length then 3 else if 2 ≤ b.length ∧ (b.any fun x => decide (251 ≤ x.toNat)) = false then 0 else 8
def bodyL (b : Bs) : Bs := b.take (b.length - 2)
def tailN (b : Bs) : Nat × Nat := ((b.getD (b.length - 2) 0).toNat, (b.getD (b.length - 1) 0).toNat)
def readH (b : Bs) : Hors × Int :=
  if openE b ≠ 0 then (horsZ, openE b) else if tailN b ≠ sumsL (bodyL b) then (horsZ, 10) else match numsP 0 0 [] (bodyL b) with
  | none => (horsZ, 8)
  | some l => if 2 ≤ l.length ∧ l.length % 4 = 2 then if horsB (horsN l) = true ∧ bookL (horsN l) = b then (horsN l, 0) else (horsZ, 8) else (horsZ, 8)
def quoN (a b : Nat) : Nat := ((List.range 251).find? fun q => q * b % 251 == a).getD 0
def lackN (b : Bs) : Nat × Nat := takF 0 (tailN b).1 (tailN b).2 (bodyL b)
def mendP (b : Bs) : Bs × Int :=
  if openE b ≠ 0 then ([], openE b) else if tailN b = sumsL (bodyL b) then ([], 4) else
  if (lackN b).2 = 0 then (b.set (b.length - 2) (UInt8.ofNat (sumsL (bodyL b)).1), 0) else
  if (lackN b).1 = 0 then (b.set (b.length - 1) (UInt8.ofNat (sumsL (bodyL b)).2), 0) else
  if 1 ≤ quoN (lackN b).2 (lackN b).1 ∧ quoN (lackN b).2 (lackN b).1 ≤ b.length - 2 then
    (b.set (quoN (lackN b).2 (lackN b).1 - 1) (UInt8.ofNat (((b.getD (quoN (lackN b).2 (lackN b).1 - 1) 0).toNat + (lackN b).1) % 251)), 0)
  else ([], 11)
def wrH (h : Hors) : Bs × Int := if horsB h = true then (bookL h, 0) else ([], 1)
end Go.Bk
