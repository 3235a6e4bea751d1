import Derived.Lib.ItoaNum
import Derived.Lib.AtoiAll
import Derived.Lib.IndexMore
import Derived.Lib.SlTrimSet
import Derived.Lib.SplitLaws
import Derived.Lib.Strings
set_option linter.unusedSimpArgs false
set_option linter.unusedVariables false
set_option linter.all false
set_option maxRecDepth 100000
set_option maxHeartbeats 1000000
/- Surfs, flags and boats in plain words: which are valid, and their texts. -/
namespace Go.Bk
abbrev Bs := List UInt8
structure Sp where
  lo : Int
  hi : Int
deriving DecidableEq, Inhabited
structure Hut where
  floor : Int
  brake : Int
  row : Int
deriving DecidableEq, Inhabited
structure Surf where
  rows : Int
  step : Int
  water : List Sp
  waves : List Sp
  huts : List Hut
deriving DecidableEq, Inhabited
structure FHour where
  wind : Sp
  thunder : Int
deriving DecidableEq, Inhabited
structure FSeen where
  hour : Int
  up : Bool
deriving DecidableEq, Inhabited
structure Flag where
  low : Int
  high : Int
  quiet : Int
  hours : List FHour
  seen : List FSeen
deriving DecidableEq, Inhabited
structure BSeen where
  minute : Int
  cols : Sp
  rows : Sp
deriving DecidableEq, Inhabited
structure Boats where
  wide : Int
  deep : Int
  speed : Int
  last : Int
  seen : List (List BSeen)
deriving DecidableEq, Inhabited

/-! ### which are valid -/
def inB (n lo hi : Int) : Bool := decide (lo ≤ n ∧ n ≤ hi)
def spB (s : Sp) (lo hi : Int) : Bool := decide (lo ≤ s.lo ∧ s.lo ≤ s.hi ∧ s.hi ≤ hi)
def nearB (s : Sp) (hi : Int) : Bool := spB s 0 hi && decide (s.hi - s.lo ≤ 3)
def hutB (rows : Int) (h : Hut) : Bool := inB h.floor 0 40 && inB h.brake 0 10 && inB h.row 0 (rows - 1)
def surfB (s : Surf) : Bool := inB s.rows 1 6 && inB s.step 0 4 && decide (s.water.length ≤ 8) && decide (s.waves.length = s.water.length) && decide (s.huts.length ≤ 5)
  && s.water.all (nearB · 30) && s.waves.all (nearB · 10) && s.huts.all (hutB s.rows)
def hourB (h : FHour) : Bool := spB h.wind 0 12 && inB h.thunder 0 2
def flagB (f : Flag) : Bool := decide (1 ≤ f.low ∧ f.low ≤ f.high ∧ f.high ≤ 12) && inB f.quiet 1 4 && decide (f.hours.length ≤ 9) && decide (f.seen.length ≤ 8)
  && f.hours.all hourB && f.seen.all fun s => inB s.hour 0 ((f.hours.length : Int) - 1)
def rowB (b : Boats) : Int → List BSeen → Bool
  | _, [] => true
  | m, s :: l => inB s.minute m b.last && spB s.cols 0 (b.wide - 1) && spB s.rows 0 (b.deep - 1) && rowB b s.minute l
def boatsB (b : Boats) : Bool := inB b.wide 1 8 && inB b.deep 1 6 && inB b.speed 0 3 && inB b.last 0 12 && decide (b.seen.length ≤ 4)
  && b.seen.all fun l => decide (l.length ≤ 5) && rowB b 0 l

/-! ### texts -/
abbrev num (n : Int) : Bs := Lib.itoa n
def two (n : Int) : Bs := if n < 10 then 32 :: num n else num n
def unl (ls : List Bs) : Bs := ls.flatMap (· ++ [10])
def surfW : Bs := [115, 117, 114, 102, 32]
def waterW : Bs := [119, 97, 116, 101, 114]
def wavesW : Bs := [119, 97, 118, 101, 115]
def hutW : Bs := [104, 117, 116, 32]
def flagW : Bs := [102, 108, 97, 103, 32]
def hoursW : Bs := [104, 111, 117, 114, 115]
def seenW : Bs := [115, 101, 101, 110]
def boatsW : Bs := [98, 111, 97, 116, 115]
def boatW : Bs := [98, 111, 97, 116]
def colT (x : Sp) : Bs := 32 :: (two x.lo ++ 45 :: two x.hi)
def heightsT (w : Bs) (l : List Sp) : Bs := w ++ l.flatMap colT
def hutT (h : Hut) : Bs := hutW ++ (two h.floor ++ 32 :: (two h.brake ++ 32 :: num h.row))
def surf0 (s : Surf) : Bs := surfW ++ (num s.rows ++ 120 :: num s.step)
def surfL (s : Surf) : List Bs := surf0 s :: heightsT waterW s.water :: heightsT wavesW s.waves :: s.huts.map hutT
def putSurf (s : Surf) : Bs := unl (surfL s)
def spanT (s : Sp) : Bs := if s.lo = s.hi then num s.lo else num s.lo ++ 46 :: 46 :: num s.hi
def markT (t : Int) : Bs := if t = 1 then [63] else if t = 2 then [33] else []
def hourT (h : FHour) : Bs := spanT h.wind ++ markT h.thunder
def seenT (s : FSeen) : Bs := num s.hour ++ [if s.up then 43 else 45]
def behind {α : Type} (w : Bs) (f : α → Bs) (l : List α) : Bs := w ++ l.flatMap fun x => 32 :: f x
def flag0 (f : Flag) : Bs := flagW ++ (num f.low ++ 45 :: (num f.high ++ 47 :: num f.quiet))
def flagL (f : Flag) : List Bs := [flag0 f, behind hoursW hourT f.hours, behind seenW seenT f.seen]
def putFlag (f : Flag) : Bs := unl (flagL f)
def bseenT (s : BSeen) : Bs := num s.minute ++ 64 :: (spanT s.cols ++ 44 :: spanT s.rows)
def boats0 (b : Boats) : Bs := boatsW ++ 32 :: (num b.wide ++ 120 :: (num b.deep ++ 32 :: 118 :: (num b.speed ++ 32 :: 116 :: num b.last)))
def boatsL (b : Boats) : List Bs := boats0 b :: b.seen.map (behind boatW bseenT)
def putBoats (b : Boats) : Bs := unl (boatsL b)

/-! ### numbers below 100 -/
def small (k : Nat) : Bs := if k < 10 then [UInt8.ofNat (48 + k)] else [UInt8.ofNat (48 + k / 10), UInt8.ofNat (48 + k % 10)]
theorem num_small {k : Nat} (h : k < 100) : num (k : Int) = small k := by
  have h0 : ¬ (k : Int) < 0 := by omega
  unfold num Lib.itoa small
  rw [if_neg h0, Int.toNat_natCast]
  by_cases h1 : k < 10
  · rw [if_pos h1, Lib.decDigits_one h1]
  · rw [if_neg h1, Lib.decDigits_two h1 h]
def In100 (n : Int) : Prop := 0 ≤ n ∧ n < 100
theorem In100.nat {n : Int} (h : In100 n) : ∃ k : Nat, k < 100 ∧ n = (k : Int) ∧ num n = small k :=
  ⟨n.toNat, by have := h.1; have := h.2; omega, by have := h.1; omega, by
    have h1 := h.1; have h2 := h.2
    rw [← num_small (by omega)]
    congr 1; omega⟩
def dig (b : UInt8) : Bool := decide (48 ≤ b.toNat ∧ b.toNat ≤ 57)
theorem small_dig : ∀ k : Fin 100, (small k.val).all dig = true := by decide +kernel
theorem small_len : ∀ k : Fin 100, 1 ≤ (small k.val).length ∧ (small k.val).length ≤ 2 := by decide +kernel
theorem small_atoi : ∀ k : Fin 100, Lib.atoiAll (small k.val) = .ok (k.val : Int) := by decide +kernel
theorem num_dig {n : Int} (h : In100 n) : ∀ b ∈ num n, dig b = true := by
  obtain ⟨k, hk, _, e⟩ := h.nat
  rw [e]
  exact List.all_eq_true.1 (small_dig ⟨k, hk⟩)
theorem num_len {n : Int} (h : In100 n) : 1 ≤ (num n).length ∧ (num n).length ≤ 2 := by
  obtain ⟨k, hk, _, e⟩ := h.nat
  rw [e]
  exact small_len ⟨k, hk⟩
theorem num_not {n : Int} (h : In100 n) {c : UInt8} (hc : dig c = false) : c ∉ num n := fun hm => by
  rw [num_dig h c hm] at hc; cases hc
theorem num_cons {n : Int} (h : In100 n) : ∃ c t, num n = c :: t ∧ dig c = true := by
  have := (num_len h).1
  cases e : num n with
  | nil => rw [e] at this; simp at this
  | cons c t => exact ⟨c, t, rfl, num_dig h c (by rw [e]; simp)⟩
theorem two_len {n : Int} (h : In100 n) : (two n).length = 2 := by
  obtain ⟨k, hk, rfl, e⟩ := h.nat
  unfold two
  rw [e]
  unfold small
  by_cases h1 : k < 10
  · rw [if_pos (by omega), if_pos h1]; rfl
  · rw [if_neg (by omega), if_neg h1]; rfl
theorem two_not {n : Int} (h : In100 n) {c : UInt8} (hc : dig c = false) (hb : c ≠ 32) : c ∉ two n := by
  unfold two
  split
  · simp only [List.mem_cons, not_or]; exact ⟨hb, num_not h hc⟩
  · exact num_not h hc
theorem two_drop {n : Int} (h : In100 n) (t : Bs) : (two n ++ t).dropWhile (· == 32) = num n ++ t := by
  obtain ⟨c, r, e, hc⟩ := num_cons h
  have hc' : (c == 32) = false := by
    rw [beq_eq_false_iff_ne]; intro h'; subst h'; revert hc; decide
  unfold two
  split
  · rw [List.cons_append, List.dropWhile_cons, if_pos (by decide), e, List.cons_append, List.dropWhile_cons, hc']; rfl
  · rw [e, List.cons_append, List.dropWhile_cons, hc']; rfl
theorem num_drop {n : Int} (h : In100 n) (t : Bs) : (num n ++ t).dropWhile (· == 32) = num n ++ t := by
  obtain ⟨c, r, e, hc⟩ := num_cons h
  have hc' : (c == 32) = false := by
    rw [beq_eq_false_iff_ne]; intro h'; subst h'; revert hc; decide
  rw [e, List.cons_append, List.dropWhile_cons, hc']; rfl

/-! ### lines -/
/-- no line feed in it -/
def flat (l : Bs) : Prop := (10 : UInt8) ∉ l
theorem unl_cons (l : Bs) (ls : List Bs) : unl (l :: ls) = l ++ 10 :: unl ls := by simp [unl]
theorem unl_append (a b : List Bs) : unl (a ++ b) = unl a ++ unl b := by simp [unl]
/-- the lines of a text, each with its line feed (the last one may have none) -/
def lnsB : Bs → Bs → List Bs
  | acc, [] => if acc = [] then [] else [acc]
  | acc, c :: r => if c = 10 then (acc ++ [10]) :: lnsB [] r else lnsB (acc ++ [c]) r
theorem lnsB_flat : ∀ (l acc rest : Bs), flat l → lnsB acc (l ++ 10 :: rest) = (acc ++ l ++ [10]) :: lnsB [] rest
  | [], acc, rest, _ => by simp [lnsB]
  | c :: r, acc, rest, h => by
    have hc : c ≠ 10 := fun e => h (by simp [e])
    rw [List.cons_append, lnsB, if_neg hc, lnsB_flat r (acc ++ [c]) rest (fun hm => h (by simp [hm]))]
    simp
/-- the lines of a text, without line feeds -/
def lns (s : Bs) : List Bs := (lnsB [] s).map fun l => Lib.trimSuffix l [10]
theorem trimSuffix_end (l p : Bs) : Lib.trimSuffix (l ++ p) p = l := by
  unfold Lib.trimSuffix
  have : Lib.hasSuffix (l ++ p) p = true := by
    unfold Lib.hasSuffix
    rw [List.isSuffixOf_iff_suffix]; exact List.suffix_append l p
  rw [if_pos this]; simp
theorem lns_unl : ∀ (ls : List Bs), (∀ l ∈ ls, flat l) → lns (unl ls) = ls
  | [], _ => rfl
  | l :: ls, h => by
    have ih := lns_unl ls fun x hx => h x (by simp [hx])
    unfold lns at ih ⊢
    rw [unl_cons, lnsB_flat l [] _ (h l (by simp)), List.map_cons, ih, List.nil_append, trimSuffix_end]
theorem unl_inj {a b : List Bs} (ha : ∀ l ∈ a, flat l) (hb : ∀ l ∈ b, flat l) (h : unl a = unl b) : a = b := by
  rw [← lns_unl a ha, ← lns_unl b hb, h]
theorem flat_app {a b : Bs} (ha : flat a) (hb : flat b) : flat (a ++ b) := by
  unfold flat at *; simp [ha, hb]
theorem flat_cons {c : UInt8} {b : Bs} (hc : c ≠ 10) (hb : flat b) : flat (c :: b) := by
  unfold flat at *; simp [hb]; exact fun e => hc e.symm
theorem flat_nil : flat [] := by simp [flat]
theorem flat_num {n : Int} (h : In100 n) : flat (num n) := num_not h (by decide)
theorem flat_two {n : Int} (h : In100 n) : flat (two n) := two_not h (by decide) (by decide)
theorem flat_all {α : Type} {f : α → Bs} {l : List α} (h : ∀ x ∈ l, flat (f x)) : flat (l.flatMap f) := by
  unfold flat at *
  simp only [List.mem_flatMap, not_exists, not_and]
  exact h

/-! ### what is valid has small numbers -/
structure SpOk (s : Sp) (hi : Int) : Prop where
  lo : 0 ≤ s.lo
  le : s.lo ≤ s.hi
  hi : s.hi ≤ hi
theorem spB_iff {s : Sp} {lo hi : Int} : spB s lo hi = true ↔ lo ≤ s.lo ∧ s.lo ≤ s.hi ∧ s.hi ≤ hi := by simp [spB]
theorem inB_iff {n lo hi : Int} : inB n lo hi = true ↔ lo ≤ n ∧ n ≤ hi := by simp [inB]
def Sp100 (s : Sp) : Prop := In100 s.lo ∧ In100 s.hi
theorem sp100 {s : Sp} {hi : Int} (h : spB s 0 hi = true) (hh : hi < 100) : Sp100 s := by
  rw [spB_iff] at h
  exact ⟨⟨by omega, by omega⟩, ⟨by omega, by omega⟩⟩
structure SurfOk (s : Surf) : Prop where
  rows : 1 ≤ s.rows ∧ s.rows ≤ 6
  step : 0 ≤ s.step ∧ s.step ≤ 4
  nwater : s.water.length ≤ 8
  same : s.waves.length = s.water.length
  nhuts : s.huts.length ≤ 5
  water : ∀ x ∈ s.water, spB x 0 30 = true ∧ x.hi - x.lo ≤ 3
  waves : ∀ x ∈ s.waves, spB x 0 10 = true ∧ x.hi - x.lo ≤ 3
  huts : ∀ h ∈ s.huts, (0 ≤ h.floor ∧ h.floor ≤ 40) ∧ (0 ≤ h.brake ∧ h.brake ≤ 10) ∧ 0 ≤ h.row ∧ h.row ≤ s.rows - 1
theorem surfB_iff {s : Surf} : surfB s = true ↔ SurfOk s := by
  simp only [surfB, hutB, nearB, inB, Bool.and_eq_true, List.all_eq_true, decide_eq_true_eq]
  constructor
  · rintro ⟨⟨⟨⟨⟨⟨⟨a, b⟩, c⟩, d⟩, e⟩, f⟩, g⟩, h⟩
    exact ⟨a, b, c, d, e, f, g, fun x hx => ⟨(h x hx).1.1, (h x hx).1.2, (h x hx).2⟩⟩
  · rintro ⟨a, b, c, d, e, f, g, h⟩
    exact ⟨⟨⟨⟨⟨⟨⟨a, b⟩, c⟩, d⟩, e⟩, f⟩, g⟩, fun x hx => ⟨⟨(h x hx).1, (h x hx).2.1⟩, (h x hx).2.2⟩⟩
structure FlagOk (f : Flag) : Prop where
  low : 1 ≤ f.low ∧ f.low ≤ f.high ∧ f.high ≤ 12
  quiet : 1 ≤ f.quiet ∧ f.quiet ≤ 4
  nhours : f.hours.length ≤ 9
  nseen : f.seen.length ≤ 8
  hours : ∀ h ∈ f.hours, spB h.wind 0 12 = true ∧ 0 ≤ h.thunder ∧ h.thunder ≤ 2
  seen : ∀ s ∈ f.seen, 0 ≤ s.hour ∧ s.hour ≤ (f.hours.length : Int) - 1
theorem flagB_iff {f : Flag} : flagB f = true ↔ FlagOk f := by
  simp only [flagB, hourB, inB, Bool.and_eq_true, List.all_eq_true, decide_eq_true_eq]
  constructor
  · rintro ⟨⟨⟨⟨⟨a, b⟩, c⟩, d⟩, e⟩, f⟩
    exact ⟨a, b, c, d, e, f⟩
  · rintro ⟨a, b, c, d, e, f⟩
    exact ⟨⟨⟨⟨⟨a, b⟩, c⟩, d⟩, e⟩, f⟩
structure BSeenOk (b : Boats) (s : BSeen) : Prop where
  minute : 0 ≤ s.minute ∧ s.minute ≤ b.last
  cols : spB s.cols 0 (b.wide - 1) = true
  rows : spB s.rows 0 (b.deep - 1) = true
theorem rowB_ok {b : Boats} : ∀ (l : List BSeen) (m : Int), 0 ≤ m → rowB b m l = true → ∀ s ∈ l, BSeenOk b s
  | [], _, _, _ => by simp
  | s :: l, m, hm, h => by
    simp only [rowB, inB, Bool.and_eq_true, decide_eq_true_eq] at h
    obtain ⟨⟨⟨h1, h2⟩, h3⟩, h4⟩ := h
    intro x hx
    rcases List.mem_cons.1 hx with rfl | hx
    · exact ⟨⟨by omega, h1.2⟩, h2, h3⟩
    · exact rowB_ok l s.minute (by omega) h4 x hx
structure BoatsOk (b : Boats) : Prop where
  wide : 1 ≤ b.wide ∧ b.wide ≤ 8
  deep : 1 ≤ b.deep ∧ b.deep ≤ 6
  speed : 0 ≤ b.speed ∧ b.speed ≤ 3
  last : 0 ≤ b.last ∧ b.last ≤ 12
  n : b.seen.length ≤ 4
  rows : ∀ l ∈ b.seen, l.length ≤ 5 ∧ rowB b 0 l = true
theorem boatsB_iff {b : Boats} : boatsB b = true ↔ BoatsOk b := by
  simp only [boatsB, inB, Bool.and_eq_true, List.all_eq_true, decide_eq_true_eq]
  constructor
  · rintro ⟨⟨⟨⟨⟨a, b⟩, c⟩, d⟩, e⟩, f⟩
    exact ⟨a, b, c, d, e, f⟩
  · rintro ⟨a, b, c, d, e, f⟩
    exact ⟨⟨⟨⟨⟨a, b⟩, c⟩, d⟩, e⟩, f⟩
theorem BoatsOk.sn {b : Boats} (h : BoatsOk b) {l : List BSeen} (hl : l ∈ b.seen) {s : BSeen} (hs : s ∈ l) : BSeenOk b s := rowB_ok l 0 (Int.le_refl _) (h.rows l hl).2 s hs

/-! ### lines without line feeds -/
theorem flat_span {s : Sp} (h : Sp100 s) : flat (spanT s) := by
  unfold spanT
  split
  · exact flat_num h.1
  · exact flat_app (flat_num h.1) (flat_cons (by decide) (flat_cons (by decide) (flat_num h.2)))
theorem surfL_flat {s : Surf} (h : SurfOk s) : ∀ l ∈ surfL s, flat l := by
  have h1 := h.rows; have h2 := h.step
  intro l hl
  simp only [surfL, List.mem_cons, List.mem_map] at hl
  rcases hl with rfl | rfl | rfl | ⟨x, hx, rfl⟩
  · exact flat_app (by simp [flat, surfW]) (flat_app (flat_num ⟨by omega, by omega⟩) (flat_cons (by decide) (flat_num ⟨by omega, by omega⟩)))
  · refine flat_app (by simp [flat, waterW]) (flat_all fun x hx => ?_)
    have := sp100 (h.water x hx).1 (by omega)
    exact flat_cons (by decide) (flat_app (flat_two this.1) (flat_cons (by decide) (flat_two this.2)))
  · refine flat_app (by simp [flat, wavesW]) (flat_all fun x hx => ?_)
    have := sp100 (h.waves x hx).1 (by omega)
    exact flat_cons (by decide) (flat_app (flat_two this.1) (flat_cons (by decide) (flat_two this.2)))
  · have := h.huts x hx
    exact flat_app (by simp [flat, hutW]) (flat_app (flat_two ⟨by omega, by omega⟩) (flat_cons (by decide) (flat_app (flat_two ⟨by omega, by omega⟩) (flat_cons (by decide) (flat_num ⟨by omega, by omega⟩)))))
theorem flat_mark (t : Int) : flat (markT t) := by
  unfold markT; split
  · simp [flat]
  · split <;> simp [flat]
theorem flagL_flat {f : Flag} (h : FlagOk f) : ∀ l ∈ flagL f, flat l := by
  have h1 := h.low; have h2 := h.quiet; have h3 := h.nhours
  intro l hl
  simp only [flagL, List.mem_cons, List.not_mem_nil, or_false] at hl
  rcases hl with rfl | rfl | rfl
  · exact flat_app (by simp [flat, flagW]) (flat_app (flat_num ⟨by omega, by omega⟩) (flat_cons (by decide) (flat_app (flat_num ⟨by omega, by omega⟩) (flat_cons (by decide) (flat_num ⟨by omega, by omega⟩)))))
  · refine flat_app (by simp [flat, hoursW]) (flat_all fun x hx => flat_cons (by decide) ?_)
    exact flat_app (flat_span (sp100 (h.hours x hx).1 (by omega))) (flat_mark _)
  · refine flat_app (by simp [flat, seenW]) (flat_all fun x hx => flat_cons (by decide) ?_)
    have := h.seen x hx
    refine flat_app (flat_num ⟨by omega, by omega⟩) ?_
    split <;> simp [flat]
theorem bseen100 {b : Boats} (h : BoatsOk b) {s : BSeen} (hs : BSeenOk b s) : In100 s.minute ∧ Sp100 s.cols ∧ Sp100 s.rows := by
  have h1 := h.wide; have h2 := h.deep; have h4 := h.last; have := hs.minute
  exact ⟨⟨by omega, by omega⟩, sp100 hs.cols (by omega), sp100 hs.rows (by omega)⟩
theorem boatsL_flat {b : Boats} (h : BoatsOk b) : ∀ l ∈ boatsL b, flat l := by
  have h1 := h.wide; have h2 := h.deep; have h3 := h.speed; have h4 := h.last
  intro l hl
  simp only [boatsL, List.mem_cons, List.mem_map] at hl
  rcases hl with rfl | ⟨x, hx, rfl⟩
  · exact flat_app (by simp [flat, boatsW]) (flat_cons (by decide) (flat_app (flat_num ⟨by omega, by omega⟩) (flat_cons (by decide) (flat_app (flat_num ⟨by omega, by omega⟩) (flat_cons (by decide) (flat_cons (by decide) (flat_app (flat_num ⟨by omega, by omega⟩) (flat_cons (by decide) (flat_cons (by decide) (flat_num ⟨by omega, by omega⟩))))))))))
  · refine flat_app (by simp [flat, boatW]) (flat_all fun s hs => flat_cons (by decide) ?_)
    obtain ⟨g1, g2, g3⟩ := bseen100 h (h.sn hx hs)
    exact flat_app (flat_num g1) (flat_cons (by decide) (flat_app (flat_span g2) (flat_cons (by decide) (flat_span g3))))
end Go.Bk
/- What the program reads of a text; what is written is read. -/
namespace Go.Bk

/-! ### parts -/
theorem index_at {c : UInt8} (r q : Bs) {p : Bs} (h : c ∉ p) : Lib.index (p ++ (c :: r ++ q)) (c :: r) = (p.length : Int) := by
  refine Lib.index_first (by simp) (by simp [Lib.occAt]) fun j hj => ?_
  unfold Lib.occAt
  rw [List.drop_append_of_le_length (by omega)]
  cases e : p.drop j with
  | nil => have := congrArg List.length e; simp at this; omega
  | cons d t =>
    have hd : d ∈ p := List.mem_of_mem_drop (by rw [e]; simp)
    have : (c == d) = false := by rw [beq_eq_false_iff_ne]; intro e'; exact h (e' ▸ hd)
    rw [List.cons_append, List.isPrefixOf_cons_cons, this, Bool.false_and]
theorem index_no {c : UInt8} (r : Bs) {s : Bs} (h : c ∉ s) : Lib.index s (c :: r) = -1 := by
  refine Lib.index_none fun j _ => ?_
  unfold Lib.occAt
  cases e : s.drop j with
  | nil => rfl
  | cons d t =>
    have hd : d ∈ s := List.mem_of_mem_drop (by rw [e]; simp)
    have : (c == d) = false := by rw [beq_eq_false_iff_ne]; intro e'; exact h (e' ▸ hd)
    rw [List.isPrefixOf_cons_cons, this, Bool.false_and]
theorem cut_at {c : UInt8} (r q : Bs) {p : Bs} (h : c ∉ p) : Lib.cut (p ++ (c :: r ++ q)) (c :: r) = (p, q, true) := by
  unfold Lib.cut
  rw [index_at r q h, if_pos (by omega), Int.toNat_natCast]
  simp
theorem cut_none {c : UInt8} (r : Bs) {s : Bs} (h : c ∉ s) : Lib.cut s (c :: r) = (s, [], false) := by
  unfold Lib.cut
  rw [index_no r h, if_neg (by omega)]
theorem trimPrefix_app (p s : Bs) : Lib.trimPrefix (p ++ s) p = s := by
  unfold Lib.trimPrefix Lib.hasPrefix
  rw [if_pos (by rw [List.isPrefixOf_iff_prefix]; exact List.prefix_append p s)]; simp
theorem hasPrefix_app (p s : Bs) : Lib.hasPrefix (p ++ s) p = true := by
  unfold Lib.hasPrefix
  rw [List.isPrefixOf_iff_prefix]; exact List.prefix_append p s

/-- the number that a part is, behind blanks -/
def numP (s : Bs) : Option Int := match Lib.atoiAll (Lib.trimLeftS s [32]) with | .ok v => some v | _ => none
theorem trimLeft_eq (s : Bs) : Lib.trimLeftS s [32] = s.dropWhile (· == 32) := by
  unfold Lib.trimLeftS
  congr 1
  funext b
  exact Lib.contains_one 32 b
theorem atoi_num {n : Int} (h : In100 n) : Lib.atoiAll (num n) = .ok n := by
  obtain ⟨k, hk, rfl, e⟩ := h.nat
  rw [e]
  exact small_atoi ⟨k, hk⟩
theorem numP_num {n : Int} (h : In100 n) : numP (num n) = some n := by
  unfold numP
  have := num_drop h []
  simp only [List.append_nil] at this
  rw [trimLeft_eq, this, atoi_num h]
theorem numP_two {n : Int} (h : In100 n) : numP (two n) = some n := by
  unfold numP
  have := two_drop h []
  simp only [List.append_nil] at this
  rw [trimLeft_eq, this, atoi_num h]
theorem numP_blank (s : Bs) : numP (32 :: s) = numP s := by
  unfold numP
  rw [trimLeft_eq, trimLeft_eq, List.dropWhile_cons, if_pos (by decide)]
/-- a part that is two numbers -/
def pairP (s b : Bs) : Option (Int × Int) :=
  if (Lib.cut s b).2.2 = true then
    match numP (Lib.cut s b).1, numP (Lib.cut s b).2.1 with
    | some x, some y => some (x, y)
    | _, _ => none
  else none
theorem pairP_at {c : UInt8} {p q : Bs} {x y : Int} (h : c ∉ p) (hx : numP p = some x) (hy : numP q = some y) : pairP (p ++ c :: q) [c] = some (x, y) := by
  unfold pairP
  have e : Lib.cut (p ++ c :: q) [c] = (p, q, true) := cut_at [] q h
  rw [e, if_pos rfl, hx, hy]
/-- a part that is a span -/
def spanP (s : Bs) : Option Sp :=
  match numP (Lib.cut s [46, 46]).1, numP (if (Lib.cut s [46, 46]).2.2 = true then (Lib.cut s [46, 46]).2.1 else (Lib.cut s [46, 46]).1) with
  | some x, some y => some ⟨x, y⟩
  | _, _ => none
theorem spanP_span {s : Sp} (h : Sp100 s) : spanP (spanT s) = some s := by
  have hc : (46 : UInt8) ∉ num s.lo := num_not h.1 (by decide)
  unfold spanP spanT
  by_cases e : s.lo = s.hi
  · rw [if_pos e, cut_none [46] hc, if_neg (by simp), numP_num h.1]
    cases s; simp only at e; subst e; rfl
  · rw [if_neg e, show num s.lo ++ 46 :: 46 :: num s.hi = num s.lo ++ ([46, 46] ++ num s.hi) from rfl, cut_at [46] _ hc, if_pos rfl, numP_num h.1, numP_num h.2]
/-- spans in two columns each -/
def colsP : Nat → Bs → Option (List Sp)
  | 0, _ => some []
  | n + 1, s => if s = [] then some [] else match pairP (s.take 6) [45] with
    | none => none
    | some (a, b) => (colsP n (s.drop 6)).map (⟨a, b⟩ :: ·)
def columnsP (line w : Bs) : Option (List Sp) :=
  if Lib.hasPrefix line w = true ∧ (line.length - w.length) % 6 = 0 then colsP (line.length + 1) (line.drop w.length) else none
theorem colT_len {x : Sp} (h : Sp100 x) : (colT x).length = 6 := by
  unfold colT
  simp [two_len h.1, two_len h.2]
theorem pair_col {x : Sp} (h : Sp100 x) : pairP (colT x) [45] = some (x.lo, x.hi) := by
  have : colT x = (32 :: two x.lo) ++ 45 :: two x.hi := rfl
  rw [this]
  refine pairP_at ?_ (by rw [numP_blank, numP_two h.1]) (numP_two h.2)
  simp only [List.mem_cons, not_or]
  exact ⟨by decide, two_not h.1 (by decide) (by decide)⟩
theorem colsP_at : ∀ (l : List Sp) (n : Nat), l.length < n → (∀ x ∈ l, Sp100 x) → colsP n (l.flatMap colT) = some l
  | [], n + 1, _, _ => by simp [colsP]
  | x :: l, n + 1, hn, h => by
    have hx := h x (by simp)
    have hl := colT_len hx
    have ih := colsP_at l n (by simpa using hn) fun y hy => h y (by simp [hy])
    rw [List.flatMap_cons, colsP, if_neg (fun e => by have := congrArg List.length e; simp [hl] at this), List.take_append_of_le_length (by omega), List.take_of_length_le (by omega), pair_col hx]
    simp only
    rw [List.drop_append_of_le_length (by omega), List.drop_of_length_le (by omega), List.nil_append, ih]
    rfl
theorem cols_len : ∀ (l : List Sp), (∀ x ∈ l, Sp100 x) → (l.flatMap colT).length = 6 * l.length
  | [], _ => rfl
  | x :: l, h => by
    rw [List.flatMap_cons, List.length_append, colT_len (h x (by simp)), cols_len l fun y hy => h y (by simp [hy])]
    simp; omega
theorem columnsP_at {w : Bs} {l : List Sp} (h : ∀ x ∈ l, Sp100 x) : columnsP (heightsT w l) w = some l := by
  unfold columnsP heightsT
  have hl := cols_len l h
  rw [if_pos ⟨hasPrefix_app _ _, by rw [List.length_append, hl]; omega⟩, List.drop_append_of_le_length (by omega), List.drop_of_length_le (by omega), List.nil_append]
  exact colsP_at l _ (by rw [List.length_append, hl]; omega) h
/-- the parts of a line, with a blank before each -/
def takenP {α : Type} (take : Bs → Option α) : Nat → Bs → Option (List α)
  | 0, _ => some []
  | _ + 1, [] => some []
  | n + 1, c :: r => if c = 32 then match take (r.takeWhile (· != 32)) with
      | none => none
      | some x => (takenP take n (r.dropWhile (· != 32))).map (x :: ·)
    else none
def listP {α : Type} (take : Bs → Option α) (line w : Bs) : Option (List α) :=
  if Lib.hasPrefix line w = true then takenP take (line.length + 1) (line.drop w.length) else none
theorem span_at {c : UInt8} : ∀ {p : Bs} (q : Bs), c ∉ p → (q = [] ∨ ∃ t, q = c :: t) → (p ++ q).takeWhile (· != c) = p ∧ (p ++ q).dropWhile (· != c) = q
  | [], q, _, h => by
    rcases h with rfl | ⟨t, rfl⟩
    · exact ⟨rfl, rfl⟩
    · simp
  | d :: p, q, hp, h => by
    have hd : (d != c) = true := by simp; exact fun e => hp (by simp [e])
    obtain ⟨h1, h2⟩ := span_at q (fun hm => hp (List.mem_cons_of_mem _ hm)) h
    rw [List.cons_append, List.takeWhile_cons, List.dropWhile_cons, if_pos hd, if_pos hd, h1, h2]
    exact ⟨rfl, rfl⟩
theorem takenP_at {α : Type} {take : Bs → Option α} {f : α → Bs} : ∀ (l : List α) (n : Nat), l.length < n → (∀ x ∈ l, (32 : UInt8) ∉ f x ∧ take (f x) = some x) → takenP take n (l.flatMap fun x => 32 :: f x) = some l
  | [], n + 1, _, _ => rfl
  | x :: l, n + 1, hn, h => by
    obtain ⟨h1, h2⟩ := h x (by simp)
    have ih := takenP_at l n (by simpa using hn) fun y hy => h y (by simp [hy])
    have hs := span_at (p := f x) (c := 32) (l.flatMap fun x => 32 :: f x) h1 (by cases l <;> simp)
    rw [List.flatMap_cons, List.cons_append, takenP, if_pos rfl, hs.1, hs.2, h2, ih]
    rfl
theorem flat_long {α : Type} (f : α → Bs) : ∀ l : List α, l.length ≤ (l.flatMap fun x => 32 :: f x).length
  | [] => by simp
  | x :: l => by
    have := flat_long f l
    simp only [List.flatMap_cons, List.length_append, List.length_cons]; omega
theorem listP_at {α : Type} {take : Bs → Option α} {f : α → Bs} {w : Bs} {l : List α} (h : ∀ x ∈ l, (32 : UInt8) ∉ f x ∧ take (f x) = some x) : listP take (behind w f l) w = some l := by
  unfold listP behind
  rw [if_pos (hasPrefix_app _ _), List.drop_append_of_le_length (by omega), List.drop_of_length_le (by omega), List.nil_append]
  have := flat_long f l
  exact takenP_at l _ (by simp only [List.length_append]; omega) h

/-! ### a text, line by line -/
def foldT {X : Type} (take : X → Nat → Bs → Option X) : X → Nat → List Bs → Option X
  | x, _, [] => some x
  | x, k, l :: ls => match take x k l with
    | none => none
    | some y => foldT take y (k + 1) ls
/-- what is read: the thing and its error -/
def readX {X : Type} (z : X) (take : X → Nat → Bs → Option X) (is : X → Bool) (put : X → Bs) (s : Bs) : X × Int :=
  if 1200 < s.length then (z, 3) else match foldT take z 0 (lns s) with
    | none => (z, 8)
    | some x => if is x = true ∧ put x = s then (x, 0) else (z, 8)

def surfZ : Surf := ⟨0, 0, [], [], []⟩
def surfP (x : Surf) (k : Nat) (l : Bs) : Option Surf :=
  match k with
  | 0 => (pairP (Lib.trimPrefix l surfW) [120]).map fun p => { x with rows := p.1, step := p.2 }
  | 1 => (columnsP l waterW).map fun c => { x with water := c }
  | 2 => (columnsP l wavesW).map fun c => { x with waves := c }
  | _ => if l.length = 11 then
      match numP ((l.drop 4).take 2), numP ((l.drop 7).take 2), numP (l.drop 10) with
      | some a, some b, some c => some { x with huts := x.huts ++ [⟨a, b, c⟩] }
      | _, _, _ => none
    else none
def flagZ : Flag := ⟨0, 0, 0, [], []⟩
def hourP (s : Bs) : Option FHour :=
  match (match s.drop (Lib.trimRightS s [63, 33]).length with | [] => some 0 | [63] => some 1 | [33] => some 2 | _ => (none : Option Int)), spanP (Lib.trimRightS s [63, 33]) with
  | some t, some w => some ⟨w, t⟩
  | _, _ => none
def fseenP (s : Bs) : Option FSeen :=
  (numP (Lib.trimSuffix (Lib.trimSuffix s [43]) [45])).map fun n => ⟨n, Lib.hasSuffix s [43]⟩
def flagP (x : Flag) (k : Nat) (l : Bs) : Option Flag :=
  match k with
  | 0 => if (Lib.cut (Lib.trimPrefix l flagW) [45]).2.2 = true then
      match numP (Lib.cut (Lib.trimPrefix l flagW) [45]).1, pairP (Lib.cut (Lib.trimPrefix l flagW) [45]).2.1 [47] with
      | some a, some p => some { x with low := a, high := p.1, quiet := p.2 }
      | _, _ => none
    else none
  | 1 => (listP hourP l hoursW).map fun h => { x with hours := h }
  | 2 => (listP fseenP l seenW).map fun h => { x with seen := h }
  | _ => none
def boatsZ : Boats := ⟨0, 0, 0, 0, []⟩
def bseenP (s : Bs) : Option BSeen :=
  if (Lib.cut s [64]).2.2 = true ∧ (Lib.cut (Lib.cut s [64]).2.1 [44]).2.2 = true then
    match numP (Lib.cut s [64]).1, spanP (Lib.cut (Lib.cut s [64]).2.1 [44]).1, spanP (Lib.cut (Lib.cut s [64]).2.1 [44]).2.1 with
    | some m, some c, some r => some ⟨m, c, r⟩
    | _, _, _ => none
  else none
def boatsP (x : Boats) (k : Nat) (l : Bs) : Option Boats :=
  match k with
  | 0 => match Lib.split l [32] with
    | [_, a, b, c] => match pairP a [120], numP (Lib.trimPrefix b [118]), numP (Lib.trimPrefix c [116]) with
      | some p, some u, some v => some { x with wide := p.1, deep := p.2, speed := u, last := v }
      | _, _, _ => none
    | _ => none
  | _ => (listP bseenP l boatW).map fun h => { x with seen := x.seen ++ [h] }

/-! ### what is written is read -/
theorem fold_map {X α : Type} {take : X → Nat → Bs → Option X} {f : α → Bs} {g : X → α → X} {k0 : Nat} : ∀ (l : List α) (x : X) (k : Nat), k0 ≤ k → (∀ y ∈ l, ∀ x k, k0 ≤ k → take x k (f y) = some (g x y)) → foldT take x k (l.map f) = some (l.foldl g x)
  | [], _, _, _, _ => rfl
  | y :: l, x, k, hk, h => by
    rw [List.map_cons, foldT, h y (by simp) x k hk]
    exact fold_map l _ _ (by omega) fun z hz => h z (by simp [hz])
theorem surf_back {s : Surf} (h : SurfOk s) : foldT surfP surfZ 0 (surfL s) = some s := by
  have h1 := h.rows; have h2 := h.step
  have e0 : ∀ x, surfP x 0 (surf0 s) = some { x with rows := s.rows, step := s.step } := fun x => by
    unfold surfP surf0
    simp only
    rw [trimPrefix_app, pairP_at (num_not ⟨by omega, by omega⟩ (by decide)) (numP_num ⟨by omega, by omega⟩) (numP_num ⟨by omega, by omega⟩)]
    rfl
  have e1 : ∀ x, surfP x 1 (heightsT waterW s.water) = some { x with water := s.water } := fun x => by
    unfold surfP
    simp only
    rw [columnsP_at fun y hy => sp100 (h.water y hy).1 (by omega)]
    rfl
  have e2 : ∀ x, surfP x 2 (heightsT wavesW s.waves) = some { x with waves := s.waves } := fun x => by
    unfold surfP
    simp only
    rw [columnsP_at fun y hy => sp100 (h.waves y hy).1 (by omega)]
    rfl
  have e3 : ∀ y ∈ s.huts, ∀ (x : Surf) k, 3 ≤ k → surfP x k (hutT y) = some { x with huts := x.huts ++ [y] } := fun y hy x k hk => by
    have hh := h.huts y hy
    have f1 : In100 y.floor := ⟨by omega, by omega⟩
    have f2 : In100 y.brake := ⟨by omega, by omega⟩
    have f3 : In100 y.row := ⟨by omega, by omega⟩
    obtain ⟨r, hr, er⟩ : ∃ r : Nat, r < 10 ∧ y.row = (r : Int) := ⟨y.row.toNat, by omega, by omega⟩
    have l3 : (num y.row).length = 1 := by
      rw [er, num_small (by omega)]; unfold small; rw [if_pos hr]; rfl
    have t1 := two_len f1; have t2 := two_len f2
    obtain ⟨k, rfl⟩ : ∃ j, k = j + 3 := ⟨k - 3, by omega⟩
    have d4 : (hutT y).drop 4 = two y.floor ++ 32 :: (two y.brake ++ 32 :: num y.row) := rfl
    have d7 : (hutT y).drop 7 = two y.brake ++ 32 :: num y.row := by
      rw [show (7 : Nat) = 4 + 3 from rfl, ← List.drop_drop, d4, show (3 : Nat) = 2 + 1 from rfl, ← List.drop_drop, List.drop_append_of_le_length (by omega), List.drop_of_length_le (l := two y.floor) (by omega)]
      rfl
    have d10 : (hutT y).drop 10 = num y.row := by
      rw [show (10 : Nat) = 7 + 3 from rfl, ← List.drop_drop, d7, show (3 : Nat) = 2 + 1 from rfl, ← List.drop_drop, List.drop_append_of_le_length (by omega), List.drop_of_length_le (l := two y.brake) (by omega)]
      rfl
    have hl : (hutT y).length = 11 := by
      simp [hutT, hutW, t1, t2, l3]
    unfold surfP
    simp only
    rw [if_pos hl, d4, d7, d10, List.take_append_of_le_length (by omega), List.take_of_length_le (by omega), List.take_append_of_le_length (by omega), List.take_of_length_le (l := two y.brake) (by omega), numP_two f1, numP_two f2, numP_num f3]
  unfold surfL
  simp only [foldT, e0, e1, e2]
  rw [fold_map (k0 := 3) _ _ _ (by omega) e3]
  have hg : ∀ (l : List Hut) (x : Surf), l.foldl (fun (x : Surf) y => { x with huts := x.huts ++ [y] }) x = { x with huts := x.huts ++ l } := by
    intro l
    induction l with
    | nil => intro x; simp
    | cons y l ih => intro x; rw [List.foldl_cons, ih]; simp
  rw [hg]
  cases s
  rfl
theorem dig_nmark {b : UInt8} (h : dig b = true) : ([63, 33] : Bs).contains b = false := by
  have : ∀ b : Fin 256, dig (UInt8.ofNat b.val) = true → ([63, 33] : Bs).contains (UInt8.ofNat b.val) = false := by decide +kernel
  have := this ⟨b.toNat, b.toNat_lt⟩
  simp only [UInt8.ofNat_toNat] at this
  exact this h
theorem span_last {s : Sp} (h : Sp100 s) : ∃ t c, spanT s = t ++ [c] ∧ dig c = true := by
  have key : ∀ {n : Int}, In100 n → ∃ t c, num n = t ++ [c] ∧ dig c = true := fun {n} hn => by
    have h1 := (num_len hn).1
    have hne : num n ≠ [] := fun e => by rw [e] at h1; simp at h1
    refine ⟨(num n).dropLast, (num n).getLast hne, (List.dropLast_concat_getLast hne).symm, num_dig hn _ (List.getLast_mem hne)⟩
  unfold spanT
  split
  · exact key h.1
  · obtain ⟨t, c, e, hc⟩ := key h.2
    exact ⟨num s.lo ++ 46 :: 46 :: t, c, by rw [e]; simp, hc⟩
theorem trimRight_span {s : Sp} (h : Sp100 s) {t : Int} (ht : 0 ≤ t ∧ t ≤ 2) : Lib.trimRightS (spanT s ++ markT t) [63, 33] = spanT s := by
  obtain ⟨r, c, e, hc⟩ := span_last h
  have h0 : Lib.trimRightS (spanT s) [63, 33] = spanT s := by
    unfold Lib.trimRightS
    rw [e, List.reverse_append, List.reverse_singleton, List.singleton_append, List.dropWhile_cons, if_neg (by rw [dig_nmark hc]; simp)]
    simp
  unfold markT
  split
  · unfold Lib.trimRightS at h0 ⊢
    rw [List.reverse_append, List.reverse_singleton, List.singleton_append, List.dropWhile_cons, if_pos (by decide)]
    exact h0
  · split
    · unfold Lib.trimRightS at h0 ⊢
      rw [List.reverse_append, List.reverse_singleton, List.singleton_append, List.dropWhile_cons, if_pos (by decide)]
      exact h0
    · rw [List.append_nil]; exact h0
theorem hourP_hour {h : FHour} (hw : Sp100 h.wind) (ht : 0 ≤ h.thunder ∧ h.thunder ≤ 2) : hourP (hourT h) = some h := by
  unfold hourP hourT
  rw [trimRight_span hw ht, List.drop_append_of_le_length (by omega), List.drop_of_length_le (by omega), List.nil_append, spanP_span hw]
  obtain ⟨w, t⟩ := h
  simp only at ht
  have : t = 0 ∨ t = 1 ∨ t = 2 := by omega
  rcases this with rfl | rfl | rfl <;> rfl
theorem fseenP_seen {s : FSeen} (h : In100 s.hour) : fseenP (seenT s) = some s := by
  obtain ⟨n, up⟩ := s
  have hk : ∀ {c : UInt8}, dig c = false → Lib.hasSuffix (num n) [c] = false := fun {c} hc => by
    unfold Lib.hasSuffix
    rw [Bool.eq_false_iff]
    intro hs
    rw [List.isSuffixOf_iff_suffix] at hs
    obtain ⟨t, ht⟩ := hs
    exact num_not h hc (by simp only; rw [← ht]; simp)
  unfold fseenP seenT
  cases up with
  | true =>
    have e1 : Lib.hasSuffix (num n ++ [43]) [43] = true := by
      unfold Lib.hasSuffix; rw [List.isSuffixOf_iff_suffix]; exact List.suffix_append _ _
    simp only [if_true]
    rw [trimSuffix_end, e1]
    unfold Lib.trimSuffix
    rw [hk (by decide), if_neg (by simp), numP_num h]; rfl
  | false =>
    have e1 : Lib.hasSuffix (num n ++ [45]) [43] = false := by
      unfold Lib.hasSuffix
      rw [Bool.eq_false_iff]
      intro hs
      rw [List.isSuffixOf_iff_suffix] at hs
      obtain ⟨t, ht⟩ := hs
      have := List.append_inj_right' ht rfl
      simp at this
    have e2 : Lib.trimSuffix (num n ++ [45]) [43] = num n ++ [45] := by
      unfold Lib.trimSuffix; rw [if_neg (by rw [e1]; simp)]
    simp only [Bool.false_eq_true, if_false]
    rw [e2, e1, trimSuffix_end, numP_num h]; rfl
theorem span_not {s : Sp} (h : Sp100 s) {c : UInt8} (hc : dig c = false) (hd : c ≠ 46) : c ∉ spanT s := by
  unfold spanT
  split
  · exact num_not h.1 hc
  · simp only [List.mem_append, List.mem_cons, not_or]
    exact ⟨num_not h.1 hc, hd, hd, num_not h.2 hc⟩
theorem mark_not (t : Int) {c : UInt8} (h1 : c ≠ 63) (h2 : c ≠ 33) : c ∉ markT t := by
  unfold markT
  split
  · simp [h1]
  · split <;> simp [h2]
theorem flag_back {f : Flag} (h : FlagOk f) : foldT flagP flagZ 0 (flagL f) = some f := by
  have h1 := h.low; have h2 := h.quiet; have h3 := h.nhours
  have e0 : ∀ x, flagP x 0 (flag0 f) = some { x with low := f.low, high := f.high, quiet := f.quiet } := fun x => by
    unfold flagP flag0
    simp only
    rw [trimPrefix_app]
    have e : Lib.cut (num f.low ++ 45 :: (num f.high ++ 47 :: num f.quiet)) [45] = (num f.low, num f.high ++ 47 :: num f.quiet, true) := cut_at [] _ (num_not ⟨by omega, by omega⟩ (by decide))
    rw [e, if_pos rfl, numP_num ⟨by omega, by omega⟩, pairP_at (num_not ⟨by omega, by omega⟩ (by decide)) (numP_num ⟨by omega, by omega⟩) (numP_num ⟨by omega, by omega⟩)]
  have e1 : ∀ x, flagP x 1 (behind hoursW hourT f.hours) = some { x with hours := f.hours } := fun x => by
    unfold flagP
    simp only
    rw [listP_at fun y hy => ?_]
    · rfl
    · have hy' := h.hours y hy
      have hs := sp100 hy'.1 (by omega)
      refine ⟨?_, hourP_hour hs hy'.2⟩
      unfold hourT
      simp only [List.mem_append, not_or]
      exact ⟨span_not hs (by decide) (by decide), mark_not _ (by decide) (by decide)⟩
  have e2 : ∀ x, flagP x 2 (behind seenW seenT f.seen) = some { x with seen := f.seen } := fun x => by
    unfold flagP
    simp only
    rw [listP_at fun y hy => ?_]
    · rfl
    · have hy' := h.seen y hy
      have hn : In100 y.hour := ⟨by omega, by omega⟩
      refine ⟨?_, fseenP_seen hn⟩
      unfold seenT
      simp only [List.mem_append, not_or]
      refine ⟨num_not hn (by decide), ?_⟩
      split <;> simp
  unfold flagL
  simp only [foldT, e0, e1, e2]
theorem bseenP_seen {s : BSeen} (h1 : In100 s.minute) (h2 : Sp100 s.cols) (h3 : Sp100 s.rows) : bseenP (bseenT s) = some s := by
  unfold bseenP bseenT
  have e : Lib.cut (num s.minute ++ 64 :: (spanT s.cols ++ 44 :: spanT s.rows)) [64] = (num s.minute, spanT s.cols ++ 44 :: spanT s.rows, true) := cut_at [] _ (num_not h1 (by decide))
  have e' : Lib.cut (spanT s.cols ++ 44 :: spanT s.rows) [44] = (spanT s.cols, spanT s.rows, true) := cut_at [] _ (span_not h2 (by decide) (by decide))
  rw [e]
  simp only
  rw [e', if_pos (by simp), numP_num h1, spanP_span h2, spanP_span h3]
theorem split_cons {p : Bs} (q : Bs) (h : (32 : UInt8) ∉ p) : Lib.split (p ++ 32 :: q) [32] = p :: Lib.split q [32] := by
  have hi : Lib.index (p ++ 32 :: q) [32] = (p.length : Int) := index_at [] q h
  have hc := Lib.count_hit (s := p ++ 32 :: q) (sub := [32]) (by simp) hi
  have hd : (p ++ 32 :: q).drop (p.length + 1) = q := by
    rw [← List.drop_drop, List.drop_append_of_le_length (by omega), List.drop_of_length_le (l := p) (by omega)]; rfl
  unfold Lib.split
  rw [hc, Nat.add_comm, Lib.splitK, if_neg (by rw [hi, beq_iff_eq]; omega), hi, Int.toNat_natCast]
  simp only [List.length_singleton, Nat.add_zero]
  rw [hd, List.take_append_of_le_length (by omega), List.take_of_length_le (by omega)]
theorem split_one {p : Bs} (h : (32 : UInt8) ∉ p) : Lib.split p [32] = [p] := by
  unfold Lib.split
  rw [Lib.count_miss (index_no [] h)]
  rfl
theorem boats_back {b : Boats} (h : BoatsOk b) : foldT boatsP boatsZ 0 (boatsL b) = some b := by
  have h1 := h.wide; have h2 := h.deep; have h3 := h.speed; have h4 := h.last
  have e0 : ∀ x, boatsP x 0 (boats0 b) = some { x with wide := b.wide, deep := b.deep, speed := b.speed, last := b.last } := fun x => by
    have w1 : In100 b.wide := ⟨by omega, by omega⟩
    have w2 : In100 b.deep := ⟨by omega, by omega⟩
    have w3 : In100 b.speed := ⟨by omega, by omega⟩
    have w4 : In100 b.last := ⟨by omega, by omega⟩
    unfold boatsP boats0
    simp only
    have e : Lib.split (boatsW ++ 32 :: (num b.wide ++ 120 :: (num b.deep ++ 32 :: 118 :: (num b.speed ++ 32 :: 116 :: num b.last)))) [32] = [boatsW, num b.wide ++ 120 :: num b.deep, 118 :: num b.speed, 116 :: num b.last] := by
      rw [split_cons _ (by simp [boatsW])]
      have a1 : num b.wide ++ 120 :: (num b.deep ++ 32 :: 118 :: (num b.speed ++ 32 :: 116 :: num b.last)) = (num b.wide ++ 120 :: num b.deep) ++ 32 :: ((118 :: num b.speed) ++ 32 :: (116 :: num b.last)) := by simp
      rw [a1, split_cons _ (by simp [num_not w1 (c := 32) (by decide), num_not w2 (c := 32) (by decide)]), split_cons _ (by simp [num_not w3 (c := 32) (by decide)]), split_one (by simp [num_not w4 (c := 32) (by decide)])]
    rw [e]
    simp only
    rw [pairP_at (num_not w1 (by decide)) (numP_num w1) (numP_num w2), show (118 : UInt8) :: num b.speed = [118] ++ num b.speed from rfl, show (116 : UInt8) :: num b.last = [116] ++ num b.last from rfl, trimPrefix_app, trimPrefix_app, numP_num w3, numP_num w4]
  have e1 : ∀ y ∈ b.seen, ∀ (x : Boats) k, 1 ≤ k → boatsP x k (behind boatW bseenT y) = some { x with seen := x.seen ++ [y] } := fun y hy x k hk => by
    obtain ⟨k, rfl⟩ : ∃ j, k = j + 1 := ⟨k - 1, by omega⟩
    unfold boatsP
    simp only
    rw [listP_at fun s hs => ?_]
    · rfl
    · obtain ⟨g1, g2, g3⟩ := bseen100 h (h.sn hy hs)
      refine ⟨?_, bseenP_seen g1 g2 g3⟩
      unfold bseenT
      simp only [List.mem_append, List.mem_cons, not_or]
      exact ⟨num_not g1 (by decide), by decide, span_not g2 (by decide) (by decide), by decide, span_not g3 (by decide) (by decide)⟩
  unfold boatsL
  simp only [foldT, e0]
  rw [fold_map (k0 := 1) _ _ _ (by omega) e1]
  have hg : ∀ (l : List (List BSeen)) (x : Boats), l.foldl (fun (x : Boats) y => { x with seen := x.seen ++ [y] }) x = { x with seen := x.seen ++ l } := by
    intro l
    induction l with
    | nil => intro x; simp
    | cons y l ih => intro x; rw [List.foldl_cons, ih]; simp
  rw [hg]
  cases b
  rfl
/-- what is read is what has this text -/
theorem readX_put {X : Type} {z : X} {take : X → Nat → Bs → Option X} {is : X → Bool} {put : X → Bs} {L : X → List Bs} (hput : ∀ x, put x = unl (L x)) (hflat : ∀ x, is x = true → ∀ l ∈ L x, flat l) (hback : ∀ x, is x = true → foldT take z 0 (L x) = some x)
    {x : X} (hx : is x = true) (hl : (put x).length ≤ 1200) : readX z take is put (put x) = (x, 0) := by
  unfold readX
  rw [if_neg (by omega), hput, lns_unl _ (hflat x hx), hback x hx]
  simp only
  rw [if_pos ⟨hx, hput x⟩]
theorem readX_of {X : Type} {z : X} {take : X → Nat → Bs → Option X} {is : X → Bool} {put : X → Bs} {s : Bs} {x : X} (h : readX z take is put s = (x, 0)) : is x = true ∧ put x = s ∧ s.length ≤ 1200 := by
  unfold readX at h
  split at h
  · cases h
  · split at h
    · cases h
    · split at h
      · rename_i hl _ _ _ hc
        cases h
        exact ⟨hc.1, hc.2, by omega⟩
      · cases h
theorem readX_no {X : Type} {z : X} {take : X → Nat → Bs → Option X} {is : X → Bool} {put : X → Bs} {s : Bs} (h : (readX z take is put s).2 ≠ 0) : readX z take is put s = (z, if 1200 < s.length then 3 else 8) := by
  unfold readX at h ⊢
  split
  · rfl
  · split
    · rfl
    · split
      · rename_i hl _ _ e hc
        rw [if_neg hl, e] at h
        simp only [hc, and_self, if_true] at h
        exact absurd rfl h
      · rfl
theorem readX_err {X : Type} {z : X} {take : X → Nat → Bs → Option X} {is : X → Bool} {put : X → Bs} {s : Bs} (h : (readX z take is put s).2 = 0) : ∃ x, readX z take is put s = (x, 0) := ⟨(readX z take is put s).1, Prod.ext rfl h⟩
abbrev readSurf (s : Bs) : Surf × Int := readX surfZ surfP surfB putSurf s
abbrev readFlag (s : Bs) : Flag × Int := readX flagZ flagP flagB putFlag s
abbrev readBoats (s : Bs) : Boats × Int := readX boatsZ boatsP boatsB putBoats s
theorem readSurf_put {x : Surf} (hx : surfB x = true) (hl : (putSurf x).length ≤ 1200) : readSurf (putSurf x) = (x, 0) :=
  readX_put (L := surfL) (fun _ => rfl) (fun _ h => surfL_flat (surfB_iff.1 h)) (fun _ h => surf_back (surfB_iff.1 h)) hx hl
theorem readFlag_put {x : Flag} (hx : flagB x = true) (hl : (putFlag x).length ≤ 1200) : readFlag (putFlag x) = (x, 0) :=
  readX_put (L := flagL) (fun _ => rfl) (fun _ h => flagL_flat (flagB_iff.1 h)) (fun _ h => flag_back (flagB_iff.1 h)) hx hl
theorem readBoats_put {x : Boats} (hx : boatsB x = true) (hl : (putBoats x).length ≤ 1200) : readBoats (putBoats x) = (x, 0) :=
  readX_put (L := boatsL) (fun _ => rfl) (fun _ h => boatsL_flat (boatsB_iff.1 h)) (fun _ h => boats_back (boatsB_iff.1 h)) hx hl
end Go.Bk
/- What the document reads of a text; it reads what is written, and so does the program. -/
namespace Go.Bk
/-- the parts of a text between bytes of some kind -/
def partsR (c : UInt8) : Bs → Bs → List Bs
  | acc, [] => [acc]
  | acc, d :: r => if d = c then acc :: partsR c [] r else partsR c (acc ++ [d]) r
def linesR (s : Bs) : List Bs := if (partsR 10 [] s).getLast? = some [] then (partsR 10 [] s).dropLast else []
/-- digits, at most so many -/
def digR : Nat → Int → Bs → Int × Bs
  | 0, n, s => (n, s)
  | _ + 1, n, [] => (n, [])
  | k + 1, n, c :: r => if dig c = true then digR k (10 * n + ((c.toNat : Int) - 48)) r else (n, c :: r)
def valueR (s : Bs) : Int × Bs := digR (8 - (s.takeWhile (· == 32)).length) 0 (s.dropWhile (· == 32))
def afterR (s : Bs) (many : Nat) : Int × Bs := if s.length < many then (0, []) else valueR (s.drop many)
def spanR (s b : Bs) : Sp × Bs :=
  if Lib.hasPrefix (valueR s).2 b = true then (⟨(valueR s).1, (afterR (valueR s).2 b.length).1⟩, (afterR (valueR s).2 b.length).2) else (⟨(valueR s).1, (valueR s).1⟩, (valueR s).2)
/-- no digit at the beginning -/
def Stop (t : Bs) : Prop := ∀ c r, t = c :: r → dig c = false
/-! ### the document's reading -/
end Go.Bk
/- Horses in plain words: which are valid, their book, its sums; what the program reads of a book and how it mends one. -/
namespace Go.Bk
structure Mv where
  at_ : Int
  place : Int
  long : Sp
deriving DecidableEq, Inhabited
structure Hors where
  pace : Int
  moves : List Mv
deriving DecidableEq, Inhabited
def moveB (m : Mv) : Bool := inB m.at_ 0 200 && inB m.place 0 30 && spB m.long 1 20
def horsB (h : Hors) : Bool := inB h.pace 0 3 && decide (h.moves.length ≤ 7) && h.moves.all moveB
structure HorsOk (h : Hors) : Prop where
  pace : 0 ≤ h.pace ∧ h.pace ≤ 3
  n : h.moves.length ≤ 7
  moves : ∀ m ∈ h.moves, (0 ≤ m.at_ ∧ m.at_ ≤ 200) ∧ (0 ≤ m.place ∧ m.place ≤ 30) ∧ 1 ≤ m.long.lo ∧ m.long.lo ≤ m.long.hi ∧ m.long.hi ≤ 20
theorem horsB_iff {h : Hors} : horsB h = true ↔ HorsOk h := by
  simp only [horsB, moveB, inB, spB, Bool.and_eq_true, List.all_eq_true, decide_eq_true_eq]
  constructor
  · rintro ⟨⟨a, b⟩, c⟩
    exact ⟨a, b, fun m hm => ⟨(c m hm).1.1, (c m hm).1.2, (c m hm).2⟩⟩
  · rintro ⟨a, b, c⟩
    exact ⟨⟨a, b⟩, fun m hm => ⟨⟨(c m hm).1, (c m hm).2.1⟩, (c m hm).2.2⟩⟩
/-- a number below 125 * 125 in bytes -/
def digL (n : Nat) : Bs := if n < 125 then [UInt8.ofNat (n + 125)] else [UInt8.ofNat (n / 125), UInt8.ofNat (n % 125 + 125)]
def moveN (m : Mv) : List Nat := [m.at_.toNat, m.place.toNat, m.long.lo.toNat, (m.long.hi - m.long.lo).toNat]
def contentL (h : Hors) : Bs := (digL h.pace.toNat ++ digL h.moves.length) ++ h.moves.flatMap fun m => (moveN m).flatMap digL
/-- the two sums, from a place on -/
def sumF : Nat → Nat → Nat → Bs → Nat × Nat
  | _, p, q, [] => (p, q)
  | i, p, q, x :: r => sumF (i + 1) ((p + x.toNat) % 251) ((q + (i + 1) % 251 * x.toNat) % 251) r
def sumsL (l : Bs) : Nat × Nat := sumF 0 0 0 l
/-- .. taken away -/
def takF : Nat → Nat → Nat → Bs → Nat × Nat
  | _, p, q, [] => (p, q)
  | i, p, q, x :: r => takF (i + 1) ((p + (251 - x.toNat % 251)) % 251) ((q + (i + 1) % 251 * (251 - x.toNat % 251)) % 251) r
def sealL (l : Bs) : Bs := l ++ [UInt8.ofNat (sumsL l).1, UInt8.ofNat (sumsL l).2]
def bookL (h : Hors) : Bs := sealL (contentL h)
/-- the numbers of bytes; none if there are too many digits, or none is the last one -/
def numsP : Nat → Nat → List Nat → Bs → Option (List Nat)
  | _, many, out, [] => if many = 0 then some out else none
  | n, many, out, x :: r => if many < 3 then
      if 125 ≤ x.toNat then numsP 0 0 (out ++ [125 * n + x.toNat % 125]) r else numsP (125 * n + x.toNat % 125) (many + 1) out r
    else none
/-- moves of numbers -/
def movesN : List Nat → List Mv
  | a :: b :: c :: d :: r => ⟨a, b, ⟨c, (c : Int) + d⟩⟩ :: movesN r
  | _ => []
def horsN (l : List Nat) : Hors := ⟨((l.getD 0 0 : Nat) : Int), movesN (l.drop 2)⟩
def horsZ : Hors := ⟨0, []⟩
/-- why bytes are no book at all: too long, or not its form -/
def openE (b : Bs) : Int := if 250 < b.length then 3 else if 2 ≤ b.length ∧ (b.any fun x => decide (251 ≤ x.toNat)) = false then 0 else 8
def bodyL (b : Bs) : Bs := b.take (b.length - 2)
def tailN (b : Bs) : Nat × Nat := ((b.getD (b.length - 2) 0).toNat, (b.getD (b.length - 1) 0).toNat)
def readH (b : Bs) : Hors × Int :=
  if openE b ≠ 0 then (horsZ, openE b) else if tailN b ≠ sumsL (bodyL b) then (horsZ, 10) else match numsP 0 0 [] (bodyL b) with
  | none => (horsZ, 8)
  | some l => if 2 ≤ l.length ∧ l.length % 4 = 2 then if horsB (horsN l) = true ∧ bookL (horsN l) = b then (horsN l, 0) else (horsZ, 8) else (horsZ, 8)
def quoN (a b : Nat) : Nat := ((List.range 251).find? fun q => q * b % 251 == a).getD 0
def lackN (b : Bs) : Nat × Nat := takF 0 (tailN b).1 (tailN b).2 (bodyL b)
def mendP (b : Bs) : Bs × Int :=
  if openE b ≠ 0 then ([], openE b) else if tailN b = sumsL (bodyL b) then ([], 4) else
  if (lackN b).2 = 0 then (b.set (b.length - 2) (UInt8.ofNat (sumsL (bodyL b)).1), 0) else
  if (lackN b).1 = 0 then (b.set (b.length - 1) (UInt8.ofNat (sumsL (bodyL b)).2), 0) else
  if 1 ≤ quoN (lackN b).2 (lackN b).1 ∧ quoN (lackN b).2 (lackN b).1 ≤ b.length - 2 then
    (b.set (quoN (lackN b).2 (lackN b).1 - 1) (UInt8.ofNat (((b.getD (quoN (lackN b).2 (lackN b).1 - 1) 0).toNat + (lackN b).1) % 251)), 0)
  else ([], 11)
def wrH (h : Hors) : Bs × Int := if horsB h = true then (bookL h, 0) else ([], 1)
end Go.Bk
