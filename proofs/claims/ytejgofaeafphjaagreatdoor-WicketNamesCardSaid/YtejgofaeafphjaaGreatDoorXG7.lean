import Derived.Lib.ItoaNum
import Derived.Lib.AtoiAll
import Derived.Test.YtejgofaeafphjaaGreatDoorXG6
import Derived.Test.YtejgofaeafphjaaGreatDoorXG5
import Derived.Lib.SplitLaws
import Derived.Lib.Strings
import Derived.Test.YtejgofaeafphjaaGreatDoorXG1
import Derived.Test.YtejgofaeafphjaaGreatDoorXG3
set_option linter.unusedSimpArgs false
set_option linter.unusedVariables false
set_option linter.all false
set_option maxRecDepth 100000
set_option maxHeartbeats 4000000
attribute [local irreducible] Go.W.WL Go.W.WLF Go.W.WC Go.W.WCF Go.W.WP Go.W.WA Go.W.WQ Go.W.WH Go.W.WHo Go.W.WCn Go.Code.wp Go.Code.wpIn
namespace Go.Ti
abbrev Bs := List UInt8
def digB (c : UInt8) : Bool := decide (48 ≤ c.toNat ∧ c.toNat ≤ 57)
def valN (acc : Nat) (s : Bs) : Nat := s.foldl (fun a c => 10 * a + (c.toNat - 48)) acc
theorem valN_cons (acc : Nat) (c : UInt8) (r : Bs) : valN acc (c :: r) = valN (10 * acc + (c.toNat - 48)) r := by simp only [valN, List.foldl_cons]
def numR (s : Bs) : Option Int := if (1 ≤ s.length ∧ s.length ≤ 6) ∧ ¬ (1 < s.length ∧ s.head? = some 48) ∧ s.all digB = true then some ((valN 0 s : Nat) : Int) else none
def numP (s : Bs) : Option Int := match Lib.atoiAll s with
  | .ok v => if 0 ≤ v ∧ s.length ≤ 6 ∧ Lib.itoa v = s then some v else none
  | _ => none
theorem valN_app (a b : Bs) (acc : Nat) : valN acc (a ++ b) = valN (valN acc a) b := List.foldl_append
theorem digB_iff {c : UInt8} : digB c = true ↔ 48 ≤ c.toNat ∧ c.toNat ≤ 57 := by simp [digB]
theorem parse_dig : ∀ (s : Bs) (acc k : Nat), s.all digB = true → acc < 10 ^ k → k + s.length ≤ 12 → Lib.parseUint10 acc s = .ok (valN acc s) ∧ valN acc s < 10 ^ (k + s.length)
  | [], acc, k, _, h, _ => ⟨rfl, h⟩
  | c :: s, acc, k, hd, h, hk => by
    simp only [List.all_cons, Bool.and_eq_true] at hd
    have hc := digB_iff.1 hd.1
    have h1 : (10 : Nat) ^ k ≤ 10 ^ 12 := Nat.pow_le_pow_right (by omega) (by simp at hk; omega)
    have h2 : (10 : Nat) ^ 12 = 1000000000000 := by decide
    have h3 : 10 * acc + (c.toNat - 48) < 10 ^ (k + 1) := by rw [Nat.pow_succ]; omega
    have ih := parse_dig s (10 * acc + (c.toNat - 48)) (k + 1) hd.2 h3 (by simp at hk; omega)
    rw [Lib.parseUint10, if_pos hc, if_neg (by omega), if_neg (by omega), valN_cons, show acc * 10 + (c.toNat - 48) = 10 * acc + (c.toNat - 48) by omega]
    exact ⟨ih.1, by rw [List.length_cons, show k + (s.length + 1) = k + 1 + s.length by omega]; exact ih.2⟩
theorem ofNat_dig {n : Nat} (h : n < 10) : (UInt8.ofNat (48 + n)).toNat = 48 + n := UInt8.toNat_ofNat_of_lt' (show 48 + n < 256 by omega)
theorem dec_dig (n : Nat) : (Lib.decDigits n).all digB = true ∧ valN 0 (Lib.decDigits n) = n ∧ Lib.decDigits n ≠ [] ∧ (10 ≤ n → (Lib.decDigits n).head? ≠ some 48) ∧ (n < 10 → (Lib.decDigits n).length = 1) ∧ (0 < n → (Lib.decDigits n).head? ≠ some 48) := by
  induction n using Nat.strongRecOn with
  | _ n ih =>
    by_cases h : n < 10
    · have e : Lib.decDigits n = [UInt8.ofNat (48 + n)] := by rw [Lib.decDigits, dif_pos h]
      have e2 := ofNat_dig h
      rw [e]
      refine ⟨by rw [List.all_cons, digB, e2]; simp; omega, by show 10 * 0 + ((UInt8.ofNat (48 + n)).toNat - 48) = n; rw [e2]; omega, by simp, fun h2 => by omega, fun _ => rfl, fun h2 e3 => ?_⟩
      simp only [List.head?_cons, Option.some.injEq] at e3
      rw [e3] at e2
      have : (48 : UInt8).toNat = 48 := rfl
      omega
    · have e : Lib.decDigits n = Lib.decDigits (n / 10) ++ [UInt8.ofNat (48 + n % 10)] := by rw [Lib.decDigits, dif_neg h]
      obtain ⟨h1, h2, h3, h4, h5, h6⟩ := ih (n / 10) (by omega)
      have e2 := ofNat_dig (n := n % 10) (by omega)
      have hh : (Lib.decDigits n).head? = (Lib.decDigits (n / 10)).head? := by
        rw [e]
        cases hd : Lib.decDigits (n / 10) with
        | nil => exact absurd hd h3
        | cons x l => rfl
      refine ⟨by rw [e, List.all_append, h1, List.all_cons, digB, e2]; simp; omega, ?_, by rw [e]; simp, fun _ => by rw [hh]; exact h6 (by omega), fun h7 => absurd h7 h, fun _ => by rw [hh]; exact h6 (by omega)⟩
      rw [e, valN_app, h2]
      show 10 * (n / 10) + ((UInt8.ofNat (48 + n % 10)).toNat - 48) = n
      rw [e2]; omega
theorem val_pos : ∀ (s : Bs) (acc : Nat), 0 < acc → 0 < valN acc s
  | [], _, h => h
  | c :: s, acc, h => by rw [valN_cons]; exact val_pos s _ (by omega)
theorem dec_back : ∀ (k : Nat) (s : Bs), s.length = k + 1 → s.all digB = true → (1 < s.length → s.head? ≠ some 48) → Lib.decDigits (valN 0 s) = s
  | 0, s, hl, hd, _ => by
    match s, hl with
    | [c], _ =>
      have hc := digB_iff.1 (by simpa using hd : digB c = true)
      have e : valN 0 [c] = c.toNat - 48 := by show 10 * 0 + (c.toNat - 48) = _; omega
      rw [e, Lib.decDigits, dif_pos (by omega), show 48 + (c.toNat - 48) = c.toNat by omega]
      simp
  | k + 1, s, hl, hd, hz => by
    have hne : s ≠ [] := fun e => by rw [e] at hl; simp at hl
    obtain ⟨t, c, rfl⟩ : ∃ t c, s = t ++ [c] := ⟨s.dropLast, s.getLast hne, (List.dropLast_concat_getLast hne).symm⟩
    have htl : t.length = k + 1 := by simpa using hl
    rw [List.all_append, Bool.and_eq_true] at hd
    have hc := digB_iff.1 (by simpa using hd.2 : digB c = true)
    have hhead : (t ++ [c]).head? = t.head? := by
      cases t with
      | nil => simp at htl
      | cons x t => rfl
    have hz' : t.head? ≠ some 48 := by rw [← hhead]; exact hz (by simp; omega)
    have ih := dec_back k t htl hd.1 (fun _ => hz')
    have hp : 0 < valN 0 t := by
      cases t with
      | nil => simp at htl
      | cons x t =>
        simp only [List.all_cons, Bool.and_eq_true] at hd
        have hx := digB_iff.1 hd.1.1
        rw [valN_cons]
        refine val_pos t _ ?_
        rcases Nat.lt_or_ge 48 x.toNat with h1 | h1
        · omega
        · exfalso
          apply hz'
          have : x.toNat = (48 : UInt8).toNat := by have : (48 : UInt8).toNat = 48 := rfl; omega
          rw [UInt8.toNat_inj.1 this]; rfl
    have e : valN 0 (t ++ [c]) = 10 * valN 0 t + (c.toNat - 48) := by rw [valN_app]; rfl
    rw [e, Lib.decDigits, dif_neg (by omega), show (10 * valN 0 t + (c.toNat - 48)) / 10 = valN 0 t by omega, ih, show 48 + (10 * valN 0 t + (c.toNat - 48)) % 10 = c.toNat by omega]
    simp
theorem itoa_nat (n : Nat) : Lib.itoa (n : Int) = Lib.decDigits n := by
  unfold Lib.itoa
  rw [if_neg (by omega), Int.toNat_natCast]
theorem atoi_dig {s : Bs} (h1 : 1 ≤ s.length) (h2 : s.length ≤ 6) (hd : s.all digB = true) : Lib.atoiAll s = .ok ((valN 0 s : Nat) : Int) := by
  have hp := parse_dig s 0 0 hd (by simp) (by omega)
  match s, h1 with
  | c :: r, _ =>
    have hc := digB_iff.1 (by simp only [List.all_cons, Bool.and_eq_true] at hd; exact hd.1 : digB c = true)
    have hlt : valN 0 (c :: r) < 1000000 := by
      have h3 : (10 : Nat) ^ (0 + (c :: r).length) ≤ 10 ^ 6 := Nat.pow_le_pow_right (by omega) (by omega)
      have h4 : (10 : Nat) ^ 6 = 1000000 := by decide
      omega
    unfold Lib.atoiAll
    simp only
    rw [if_neg (by omega), Lib.parseMag, if_neg (by simp), hp.1]
    simp only
    rw [if_neg (by omega), if_neg (by omega), if_neg (by omega)]
theorem num_same (s : Bs) : numP s = numR s := by
  by_cases h : (1 ≤ s.length ∧ s.length ≤ 6) ∧ ¬ (1 < s.length ∧ s.head? = some 48) ∧ s.all digB = true
  · have hb := dec_back (s.length - 1) s (by omega) h.2.2 (fun h1 e => h.2.1 ⟨h1, e⟩)
    unfold numP numR
    rw [if_pos h, atoi_dig h.1.1 h.1.2 h.2.2]
    simp only
    rw [if_pos ⟨by omega, h.1.2, by rw [itoa_nat, hb]⟩]
  · unfold numR
    rw [if_neg h]
    unfold numP
    split
    · rename_i v e
      rw [if_neg]
      rintro ⟨h0, hl, hi⟩
      obtain ⟨n, rfl⟩ := Int.eq_ofNat_of_zero_le h0
      rw [itoa_nat] at hi
      have hd := dec_dig n
      rw [hi] at hd
      refine h ⟨⟨?_, hl⟩, fun h1 => ?_, hd.1⟩
      · have := List.length_pos_iff.2 hd.2.2.1; omega
      · rcases Nat.lt_or_ge n 10 with h2 | h2
        · have := hd.2.2.2.2.1 h2; omega
        · exact hd.2.2.2.1 h2 h1.2
    · rfl
theorem num_num {s : Bs} {v : Int} (h : numP s = some v) : 0 ≤ v ∧ v < 1000000 := by
  rw [num_same] at h
  unfold numR at h
  split at h
  · rename_i h1
    cases h
    have hp := (parse_dig s 0 0 h1.2.2 (by simp) (by omega)).2
    have h3 : (10 : Nat) ^ (0 + s.length) ≤ 10 ^ 6 := Nat.pow_le_pow_right (by omega) (by omega)
    have h4 : (10 : Nat) ^ 6 = 1000000 := by decide
    omega
  · cases h
end Go.Ti
namespace Go.Ti
open Go.W
def minT (n : Int) : Bool := decide (0 ≤ n ∧ n ≤ 240)
def waitB (t : Tru) (i : Nat) (m : Int) : Bool := decide ((t i).1 ≤ m ∧ m ≤ (t i).2)
def nowI (t : Tru) (m : Int) : Nat → Int
  | 0 => -1
  | i + 1 => if waitB t i m = true ∧ (nowI t m i < 0 ∨ befT t i (nowI t m i).toNat = true) then (i : Int) else nowI t m i
def usedB (T : Tks) (t : Tru) (hut m : Int) : Bool := (List.range T.l.length).any fun i => decide ((gt T.l i).hut = hut) && decide (0 ≤ m - (t i).2 ∧ m - (t i).2 ≤ 29)
def WhoseOut (T : Tks) (m : Int) : Int × Bool × Int := if tksE T (minT m) ≠ 0 then (0, false, tksE T (minT m)) else ((bitsI (fun i => (allT T).any fun t => decide (nowI t m T.l.length = (i : Int))) T.l.length : Int), (allT T).any (fun t => decide (nowI t m T.l.length < 0)), 0)
def FreeOut (T : Tks) (hut m : Int) : Int × Int := if tksE T (hutT T hut && minT m) ≠ 0 then (0, tksE T (hutT T hut && minT m)) else (gradeI ((allT T).any fun t => !usedB T t hut m) ((allT T).any fun t => usedB T t hut m), 0)
structure Wick where
  huts : Int
  price : Int
  fine : Int
  wait : Int
  marks : List Mark
  sand : List Sp
deriving Inhabited
structure Day where
  tks : List Tick
  looks : List Look
  book : List Ent
deriving Inhabited
def day0 : Day := ⟨[], [], []⟩
def tideW (w : Wick) (d : Day) : Tide := ⟨w.marks, w.sand, d.looks⟩
def tksW (w : Wick) (d : Day) : Tks := ⟨w.huts, d.tks⟩
def tillW (w : Wick) (d : Day) : Till := ⟨tksW w d, w.price, w.fine, w.wait⟩
def wickB (w : Wick) : Bool := tillB (tillW w day0) && tideB (tideW w day0)
def repL (w : Bs) (l : List Int) : Bs := w ++ l.flatMap fun n => 32 :: Lib.itoa n
def ticketS : Bs := [116, 105, 99, 107, 101, 116]
def lookS : Bs := [108, 111, 111, 107]
def turnS : Bs := [116, 117, 114, 110]
def whoseS : Bs := [119, 104, 111, 115, 101]
def freeS : Bs := [102, 114, 101, 101]
def depthS_ : Bs := [100, 101, 112, 116, 104]
def firstS : Bs := [102, 105, 114, 115, 116]
def bookS : Bs := [98, 111, 111, 107]
def sumS : Bs := [115, 117, 109]
def payS : Bs := [112, 97, 121]
def fineS : Bs := [102, 105, 110, 101]
def backS : Bs := [98, 97, 99, 107]
def paidS : Bs := [112, 97, 105, 100]
def wordN (s : Bs) : Option Nat :=
  if s = ticketS then some 5 else if s = lookS then some 4 else if s = turnS then some 1 else if s = whoseS then some 1 else if s = freeS then some 2 else if s = depthS_ then some 2 else
  if s = firstS then some 3 else if s = bookS then some 0 else if s = sumS then some 0 else if s = payS then some 1 else if s = fineS then some 1 else if s = backS then some 2 else none
def numsL : List Bs → Option (List Int)
  | [] => some []
  | s :: l => (numP s).bind fun v => (numsL l).map fun r => v :: r
abbrev Rep := Day × Bs × Int
def errD (d : Day) (e : Int) : Rep := (d, [], e)
def sellD (w : Wick) (d : Day) (x : Tick) : Rep :=
  if 5 ≤ d.tks.length then errD d 9 else if tksB ⟨w.huts, d.tks ++ [x]⟩ = false then errD d 2 else ({ d with tks := d.tks ++ [x] }, repL ticketS [(d.tks.length : Int)], 0)
def lookD (w : Wick) (d : Day) (x : Look) : Rep :=
  if 6 ≤ d.looks.length then errD d 9 else if tideB ⟨w.marks, w.sand, d.looks ++ [x]⟩ = false then errD d 2 else ({ d with looks := d.looks ++ [x] }, repL lookS [(d.looks.length : Int)], 0)
def bookD (d : Day) (x : Ent) : Rep :=
  if (d.tks.length : Int) ≤ x.ticket then errD d 2 else if bookedB d.book x.ticket x.kind = true then errD d 5 else ({ d with book := d.book ++ [x] }, repL paidS [(d.book.length : Int)], 0)
def askD (d : Day) (s : Bs) (r : List Int) (e : Int) : Rep := if e ≠ 0 then errD d e else (d, repL s r, 0)
def boolI (b : Bool) : Int := if b then 1 else 0
def doD (w : Wick) (d : Day) (s : Bs) (l : List Int) : Rep :=
  if s = ticketS then sellD w d ⟨⟨gt l 0, gt l 1⟩, gt l 2, ⟨gt l 3, gt l 4⟩⟩ else
  if s = lookS then lookD w d ⟨gt l 0, gt l 1, ⟨gt l 2, gt l 3⟩⟩ else
  if s = turnS then askD d turnS [(TurnOut (tksW w d) (gt l 0)).1] (TurnOut (tksW w d) (gt l 0)).2 else
  if s = whoseS then askD d whoseS [(WhoseOut (tksW w d) (gt l 0)).1, boolI (WhoseOut (tksW w d) (gt l 0)).2.1] (WhoseOut (tksW w d) (gt l 0)).2.2 else
  if s = freeS then askD d freeS [(FreeOut (tksW w d) (gt l 0) (gt l 1)).1] (FreeOut (tksW w d) (gt l 0) (gt l 1)).2 else
  if s = depthS_ then askD d depthS_ [(DepthOut (tideW w d) (gt l 0) (gt l 1)).1.lo, (DepthOut (tideW w d) (gt l 0) (gt l 1)).1.hi] (DepthOut (tideW w d) (gt l 0) (gt l 1)).2 else
  if s = firstS then askD d firstS [(FirstOut (tideW w d) (gt l 0) (gt l 1) (gt l 2)).1] (FirstOut (tideW w d) (gt l 0) (gt l 1) (gt l 2)).2 else
  if s = bookS then (if (CheckOut (tillW w d) d.book).2.2 = 4 then (d, bookS, 0) else askD d bookS [(CheckOut (tillW w d) d.book).1, (CheckOut (tillW w d) d.book).2.1] (CheckOut (tillW w d) d.book).2.2) else
  if s = sumS then askD d sumS [(SumOut (tillW w d) d.book).1] (SumOut (tillW w d) d.book).2 else
  if s = payS then bookD d ⟨gt l 0, 1, w.price⟩ else
  if s = fineS then bookD d ⟨gt l 0, 2, w.fine⟩ else bookD d ⟨gt l 0, 3, gt l 1⟩
def lineD (w : Wick) (d : Day) (s : Bs) : Rep :=
  if 60 < s.length then errD d 3 else match wordN ((Lib.split s [32]).headD []) with
  | none => errD d 8
  | some n => if (Lib.split s [32]).length ≠ n + 1 then errD d 8 else match numsL (Lib.split s [32]).tail with
    | none => errD d 8
    | some l => doD w d ((Lib.split s [32]).headD []) l
def linesD (w : Wick) : Day → List Bs → Day
  | d, [] => d
  | d, s :: l => linesD w (lineD w d s).1 l
def repsD (w : Wick) : Day → List Bs → List Bs × Nat
  | _, [] => ([], 0)
  | d, s :: l => ((lineD w d s).2.1 :: (repsD w (lineD w d s).1 l).1, (if (lineD w d s).2.2 ≠ 0 then 1 else 0) + (repsD w (lineD w d s).1 l).2)
def PlayOut (w : Wick) (l : List Bs) : List Bs × Int × Int := if 60 < l.length then ([], 0, 3) else if wickB w = false then ([], 0, 1) else ((repsD w day0 l).1, ((repsD w day0 l).2 : Int), 0)
def partsR : Bs → Bs → List Bs
  | acc, [] => [acc]
  | acc, d :: r => if d = 32 then acc :: partsR [] r else partsR (acc ++ [d]) r
theorem parts_flat : ∀ (p acc q : Bs), (32 : UInt8) ∉ p → partsR acc (p ++ 32 :: q) = (acc ++ p) :: partsR [] q
  | [], acc, q, _ => by simp [partsR]
  | d :: p, acc, q, h => by
    rw [List.cons_append, partsR, if_neg (fun e => h (by simp [e])), parts_flat p _ q (fun hm => h (by simp [hm]))]
    simp
theorem parts_one : ∀ (p acc : Bs), (32 : UInt8) ∉ p → partsR acc p = [acc ++ p]
  | [], acc, _ => by simp [partsR]
  | d :: p, acc, h => by
    rw [partsR, if_neg (fun e => h (by simp [e])), parts_one p _ (fun hm => h (by simp [hm]))]
    simp
theorem cut32 : ∀ s : Bs, (32 : UInt8) ∈ s → ∃ p q, s = p ++ 32 :: q ∧ (32 : UInt8) ∉ p
  | [], h => by cases h
  | c :: s, h => by
    by_cases e : c = 32
    · exact ⟨[], s, by rw [e]; rfl, by simp⟩
    · have e' : ¬ 32 = c := fun x => e x.symm
      obtain ⟨p, q, h1, h2⟩ := cut32 s (by simpa [e'] using h)
      exact ⟨c :: p, q, by rw [h1]; rfl, by simp [h2, e']⟩
end Go.Ti
namespace Go.Ti
open Go.W
theorem index_at {c : UInt8} (r q : Bs) {p : Bs} (h : c ∉ p) : Lib.index (p ++ (c :: r ++ q)) (c :: r) = (p.length : Int) := by
  refine Lib.index_first (by simp) (by simp [Lib.occAt]) fun j hj => ?_
  unfold Lib.occAt
  rw [List.drop_append_of_le_length (by omega)]
  cases e : p.drop j with
  | nil => have := congrArg List.length e; simp at this; omega
  | cons d t =>
    have hd : d ∈ p := List.mem_of_mem_drop (by rw [e]; simp)
    have : (c == d) = false := by rw [beq_eq_false_iff_ne]; intro e'; exact h (e' ▸ hd)
    rw [List.cons_append, List.isPrefixOf_cons_cons, this, Bool.false_and]
theorem index_no {c : UInt8} (r : Bs) {s : Bs} (h : c ∉ s) : Lib.index s (c :: r) = -1 := by
  refine Lib.index_none fun j _ => ?_
  unfold Lib.occAt
  cases e : s.drop j with
  | nil => rfl
  | cons d t =>
    have hd : d ∈ s := List.mem_of_mem_drop (by rw [e]; simp)
    have : (c == d) = false := by rw [beq_eq_false_iff_ne]; intro e'; exact h (e' ▸ hd)
    rw [List.isPrefixOf_cons_cons, this, Bool.false_and]
theorem split_cons {p : Bs} (q : Bs) (h : (32 : UInt8) ∉ p) : Lib.split (p ++ 32 :: q) [32] = p :: Lib.split q [32] := by
  have hi : Lib.index (p ++ 32 :: q) [32] = (p.length : Int) := index_at [] q h
  have hc := Lib.count_hit (s := p ++ 32 :: q) (sub := [32]) (by simp) hi
  have hd : (p ++ 32 :: q).drop (p.length + 1) = q := by
    rw [← List.drop_drop, List.drop_append_of_le_length (by omega), List.drop_of_length_le (l := p) (by omega)]; rfl
  unfold Lib.split
  rw [hc, Nat.add_comm, Lib.splitK, if_neg (by rw [hi, beq_iff_eq]; omega), hi, Int.toNat_natCast]
  simp only [List.length_singleton, Nat.add_zero]
  rw [hd, List.take_append_of_le_length (by omega), List.take_of_length_le (by omega)]
theorem split_one {p : Bs} (h : (32 : UInt8) ∉ p) : Lib.split p [32] = [p] := by
  unfold Lib.split
  rw [Lib.count_miss (index_no [] h)]
  rfl
theorem split_parts : ∀ (n : Nat) (s : Bs), s.length ≤ n → Lib.split s [32] = partsR [] s
  | n, s, hn => by
    by_cases h : (32 : UInt8) ∈ s
    · obtain ⟨p, q, rfl, hp⟩ := cut32 s h
      rw [split_cons q hp, parts_flat p [] q hp, List.nil_append]
      cases n with
      | zero => simp at hn
      | succ n => rw [split_parts n q (by simp at hn; omega)]
    · rw [split_one h, parts_one s [] h, List.nil_append]
theorem split_ne (s : Bs) : Lib.split s [32] ≠ [] := by
  by_cases h : (32 : UInt8) ∈ s
  · obtain ⟨p, q, rfl, hp⟩ := cut32 s h
    rw [split_cons q hp]; simp
  · rw [split_one h]; simp
structure DayOk (w : Wick) (d : Day) : Prop where
  tks : tksB (tksW w d) = true
  tide : tideB (tideW w d) = true
  ent : ∀ i, i < d.book.length → (0 ≤ (gt d.book i).ticket ∧ (gt d.book i).ticket < (d.tks.length : Int)) ∧ (1 ≤ (gt d.book i).kind ∧ (gt d.book i).kind ≤ 3)
  once : ∀ i, i < d.book.length → bookedB (d.book.take i) (gt d.book i).ticket (gt d.book i).kind = false
  due : ∀ i, i < d.book.length → ((gt d.book i).kind = 1 → (gt d.book i).pence = w.price) ∧ ((gt d.book i).kind = 2 → (gt d.book i).pence = w.fine)
theorem day0_ok {w : Wick} (h : wickB w = true) : DayOk w day0 := by
  simp only [wickB, tillB, Bool.and_eq_true] at h
  exact ⟨h.1.1.1.1, h.2, fun i hi => absurd hi (Nat.not_lt_zero _), fun i hi => absurd hi (Nat.not_lt_zero _), fun i hi => absurd hi (Nat.not_lt_zero _)⟩
theorem ask_day (d : Day) (s : Bs) (r : List Int) (e : Int) : (askD d s r e).1 = d := by unfold askD; split <;> rfl
theorem sell_ok {w : Wick} {d : Day} (h : DayOk w d) (x : Tick) : DayOk w (sellD w d x).1 := by
  unfold sellD
  split
  · exact h
  · split
    · exact h
    · rename_i h1 h2
      refine ⟨by simpa [tksW] using h2, h.tide, fun i hi => ?_, h.once, h.due⟩
      have := h.ent i hi
      refine ⟨⟨this.1.1, ?_⟩, this.2⟩
      have h3 : ((d.tks ++ [x]).length : Int) = d.tks.length + 1 := by simp
      show (gt d.book i).ticket < ((d.tks ++ [x]).length : Int)
      omega
theorem look_ok {w : Wick} {d : Day} (h : DayOk w d) (x : Look) : DayOk w (lookD w d x).1 := by
  unfold lookD
  split
  · exact h
  · split
    · exact h
    · rename_i h1 h2
      exact ⟨h.tks, by simpa [tideW] using h2, h.ent, h.once, h.due⟩
theorem book_ok {w : Wick} {d : Day} (h : DayOk w d) (x : Ent) (h0 : 0 ≤ x.ticket) (hk : 1 ≤ x.kind ∧ x.kind ≤ 3) (hp : (x.kind = 1 → x.pence = w.price) ∧ (x.kind = 2 → x.pence = w.fine)) : DayOk w (bookD d x).1 := by
  unfold bookD
  split
  · exact h
  · split
    · exact h
    · rename_i h1 h2
      have app : ∀ i, i < (d.book ++ [x]).length → (i < d.book.length ∧ gt (d.book ++ [x]) i = gt d.book i) ∨ (i = d.book.length ∧ gt (d.book ++ [x]) i = x) := fun i hi => by
        rcases Nat.lt_or_ge i d.book.length with h3 | h3
        · exact .inl ⟨h3, gt_app_left h3⟩
        · have h4 : i = d.book.length := by simp at hi; omega
          subst h4
          exact .inr ⟨rfl, by simp [gt, List.getD]⟩
      refine ⟨h.tks, h.tide, fun i hi => ?_, fun i hi => ?_, fun i hi => ?_⟩
      · rcases app i hi with ⟨h3, e⟩ | ⟨_, e⟩ <;> simp only [e]
        · exact h.ent i h3
        · exact ⟨⟨h0, by omega⟩, hk⟩
      · rcases app i hi with ⟨h3, e⟩ | ⟨h3, e⟩ <;> simp only [e]
        · rw [List.take_append_of_le_length (by omega)]; exact h.once i h3
        · rw [h3, List.take_append_of_le_length (by omega), List.take_length]; simpa using h2
      · rcases app i hi with ⟨h3, e⟩ | ⟨_, e⟩ <;> simp only [e]
        · exact h.due i h3
        · exact hp
theorem numsL_nn : ∀ (l : List Bs) (ns : List Int), numsL l = some ns → ns.length = l.length ∧ ∀ n ∈ ns, 0 ≤ n ∧ n < 1000000
  | [], ns, h => by cases h; exact ⟨rfl, by simp⟩
  | s :: l, ns, h => by
    rw [numsL] at h
    cases e : numP s with
    | none => rw [e] at h; cases h
    | some v =>
      cases e2 : numsL l with
      | none => rw [e, e2] at h; cases h
      | some r =>
        rw [e, e2] at h
        simp only [Option.bind_some, Option.map_some, Option.some.injEq] at h
        subst h
        obtain ⟨h1, h2⟩ := numsL_nn l r e2
        refine ⟨by simp [h1], fun n hn => ?_⟩
        rcases List.mem_cons.1 hn with rfl | hn
        · exact num_num e
        · exact h2 n hn
theorem gt_nn {ns : List Int} (h : ∀ n ∈ ns, 0 ≤ n ∧ n < 1000000) (i : Nat) : 0 ≤ gt ns i := by
  rcases Nat.lt_or_ge i ns.length with h1 | h1
  · exact (h _ (gt_mem h1)).1
  · rw [gt_out h1]; decide
theorem do_ok {w : Wick} {d : Day} (h : DayOk w d) (s : Bs) {l : List Int} (hl : ∀ n ∈ l, 0 ≤ n ∧ n < 1000000) : DayOk w (doD w d s l).1 := by
  have hb : ∀ (k p : Int), (1 ≤ k ∧ k ≤ 3) → (k = 1 → p = w.price) ∧ (k = 2 → p = w.fine) → DayOk w (bookD d ⟨gt l 0, k, p⟩).1 := fun k p hk hp => book_ok h _ (gt_nn hl 0) hk hp
  have ha : ∀ s r e, DayOk w (askD d s r e).1 := fun s r e => by rw [ask_day]; exact h
  by_cases h1 : s = ticketS
  · rw [doD, if_pos h1]; exact sell_ok h _
  rw [doD, if_neg h1]
  by_cases h2 : s = lookS
  · rw [if_pos h2]; exact look_ok h _
  rw [if_neg h2]
  by_cases h3 : s = turnS
  · rw [if_pos h3]; exact ha _ _ _
  rw [if_neg h3]
  by_cases h4 : s = whoseS
  · rw [if_pos h4]; exact ha _ _ _
  rw [if_neg h4]
  by_cases h5 : s = freeS
  · rw [if_pos h5]; exact ha _ _ _
  rw [if_neg h5]
  by_cases h6 : s = depthS_
  · rw [if_pos h6]; exact ha _ _ _
  rw [if_neg h6]
  by_cases h7 : s = firstS
  · rw [if_pos h7]; exact ha _ _ _
  rw [if_neg h7]
  by_cases h8 : s = bookS
  · rw [if_pos h8]
    by_cases h9 : (CheckOut (tillW w d) d.book).2.2 = 4
    · rw [if_pos h9]; exact h
    · rw [if_neg h9]; exact ha _ _ _
  rw [if_neg h8]
  by_cases h9 : s = sumS
  · rw [if_pos h9]; exact ha _ _ _
  rw [if_neg h9]
  by_cases h10 : s = payS
  · rw [if_pos h10]; exact hb _ _ (by decide) ⟨fun _ => rfl, fun e => absurd e (by decide)⟩
  rw [if_neg h10]
  by_cases h11 : s = fineS
  · rw [if_pos h11]; exact hb _ _ (by decide) ⟨fun e => absurd e (by decide), fun _ => rfl⟩
  rw [if_neg h11]
  exact hb _ _ (by decide) ⟨fun e => absurd e (by decide), fun e => absurd e (by decide)⟩
theorem line_ok {w : Wick} {d : Day} (h : DayOk w d) (s : Bs) : DayOk w (lineD w d s).1 := by
  unfold lineD
  split
  · exact h
  · split
    · exact h
    · split
      · exact h
      · split
        · exact h
        · rename_i e
          exact do_ok h _ (numsL_nn _ _ e).2
theorem lines_ok {w : Wick} : ∀ (l : List Bs) {d : Day}, DayOk w d → DayOk w (linesD w d l)
  | [], _, h => h
  | s :: l, _, h => lines_ok l (line_ok h s)
end Go.Ti
namespace Go.Ti
open Go.W
section
variable (w : Wick) (d : Day) (l : List Int)
theorem do_ticket : doD w d ticketS l = sellD w d ⟨⟨gt l 0, gt l 1⟩, gt l 2, ⟨gt l 3, gt l 4⟩⟩ := by rw [doD, if_pos rfl]
theorem do_look : doD w d lookS l = lookD w d ⟨gt l 0, gt l 1, ⟨gt l 2, gt l 3⟩⟩ := by rw [doD, if_neg (by decide), if_pos rfl]
theorem do_turn : doD w d turnS l = askD d turnS [(TurnOut (tksW w d) (gt l 0)).1] (TurnOut (tksW w d) (gt l 0)).2 := by rw [doD, if_neg (by decide), if_neg (by decide), if_pos rfl]
theorem do_whose : doD w d whoseS l = askD d whoseS [(WhoseOut (tksW w d) (gt l 0)).1, boolI (WhoseOut (tksW w d) (gt l 0)).2.1] (WhoseOut (tksW w d) (gt l 0)).2.2 := by
  rw [doD, if_neg (by decide), if_neg (by decide), if_neg (by decide), if_pos rfl]
theorem do_free : doD w d freeS l = askD d freeS [(FreeOut (tksW w d) (gt l 0) (gt l 1)).1] (FreeOut (tksW w d) (gt l 0) (gt l 1)).2 := by
  rw [doD, if_neg (by decide), if_neg (by decide), if_neg (by decide), if_neg (by decide), if_pos rfl]
theorem do_depth : doD w d depthS_ l = askD d depthS_ [(DepthOut (tideW w d) (gt l 0) (gt l 1)).1.lo, (DepthOut (tideW w d) (gt l 0) (gt l 1)).1.hi] (DepthOut (tideW w d) (gt l 0) (gt l 1)).2 := by
  rw [doD, if_neg (by decide), if_neg (by decide), if_neg (by decide), if_neg (by decide), if_neg (by decide), if_pos rfl]
theorem do_first : doD w d firstS l = askD d firstS [(FirstOut (tideW w d) (gt l 0) (gt l 1) (gt l 2)).1] (FirstOut (tideW w d) (gt l 0) (gt l 1) (gt l 2)).2 := by
  rw [doD, if_neg (by decide), if_neg (by decide), if_neg (by decide), if_neg (by decide), if_neg (by decide), if_neg (by decide), if_pos rfl]
theorem do_book : doD w d bookS l = if (CheckOut (tillW w d) d.book).2.2 = 4 then (d, bookS, 0) else askD d bookS [(CheckOut (tillW w d) d.book).1, (CheckOut (tillW w d) d.book).2.1] (CheckOut (tillW w d) d.book).2.2 := by
  rw [doD, if_neg (by decide), if_neg (by decide), if_neg (by decide), if_neg (by decide), if_neg (by decide), if_neg (by decide), if_neg (by decide), if_pos rfl]
theorem do_sum : doD w d sumS l = askD d sumS [(SumOut (tillW w d) d.book).1] (SumOut (tillW w d) d.book).2 := by
  rw [doD, if_neg (by decide), if_neg (by decide), if_neg (by decide), if_neg (by decide), if_neg (by decide), if_neg (by decide), if_neg (by decide), if_neg (by decide), if_pos rfl]
theorem do_pay : doD w d payS l = bookD d ⟨gt l 0, 1, w.price⟩ := by
  rw [doD, if_neg (by decide), if_neg (by decide), if_neg (by decide), if_neg (by decide), if_neg (by decide), if_neg (by decide), if_neg (by decide), if_neg (by decide), if_neg (by decide), if_pos rfl]
theorem do_fine : doD w d fineS l = bookD d ⟨gt l 0, 2, w.fine⟩ := by
  rw [doD, if_neg (by decide), if_neg (by decide), if_neg (by decide), if_neg (by decide), if_neg (by decide), if_neg (by decide), if_neg (by decide), if_neg (by decide), if_neg (by decide), if_neg (by decide), if_pos rfl]
theorem do_back : doD w d backS l = bookD d ⟨gt l 0, 3, gt l 1⟩ := by
  rw [doD, if_neg (by decide), if_neg (by decide), if_neg (by decide), if_neg (by decide), if_neg (by decide), if_neg (by decide), if_neg (by decide), if_neg (by decide), if_neg (by decide), if_neg (by decide), if_neg (by decide)]
end
theorem pig : ∀ (n : Nat) (l : List Nat), l.Nodup → (∀ x ∈ l, x < n) → l.length ≤ n
  | 0, l, _, h => by
    cases l with
    | nil => exact Nat.le_refl _
    | cons a r => exact absurd (h a (by simp)) (Nat.not_lt_zero _)
  | n + 1, l, hn, h => by
    by_cases hm : n ∈ l
    · have h1 := pig n (l.erase n) (hn.erase n) (fun x hx => by
        have h2 := (hn.mem_erase_iff).1 hx
        have := h x h2.2
        have := h2.1
        omega)
      rw [List.length_erase_of_mem hm] at h1
      omega
    · have h1 := pig n l hn (fun x hx => by
        have := h x hx
        have : x ≠ n := fun e => hm (e ▸ hx)
        omega)
      omega
theorem booked_at {l : List Ent} {t k : Int} (h : bookedB l t k = false) {j : Nat} (hj : j < l.length) : ¬ ((gt l j).ticket = t ∧ (gt l j).kind = k) := fun e => by
  exact List.any_eq_false.1 h _ (gt_mem hj) (decide_eq_true e)
theorem gt_takeC {α : Type} [Inhabited α] {l : List α} {i j : Nat} (h : j < i) : gt (l.take i) j = gt l j := by
  simp only [gt, List.getD, List.getElem?_take_of_lt h]
theorem ent_len {w : Wick} {d : Day} (hd : DayOk w d) : d.book.length ≤ 15 := by
  have h5 : d.tks.length ≤ 5 := (tks_num hd.tks).2.1
  have h := pig 15 (d.book.map fun e => ((e.ticket * 3 + e.kind) - 1).toNat) ?_ ?_
  · simpa using h
  · rw [List.Nodup, List.pairwise_iff_getElem]
    intro i j hi hj hij
    simp only [List.length_map] at hi hj
    simp only [List.getElem_map, ne_eq]
    have e1 : d.book[i] = gt d.book i := by simp [gt, List.getD, hi]
    have e2 : d.book[j] = gt d.book j := by simp [gt, List.getD, hj]
    rw [e1, e2]
    have h1 := hd.ent i hi
    have h2 := hd.ent j hj
    have h3 := booked_at (hd.once j hj) (j := i) (by simp; omega)
    rw [gt_takeC hij] at h3
    intro e
    exact h3 (by omega)
  · intro x hx
    obtain ⟨e, he, rfl⟩ := List.mem_map.1 hx
    obtain ⟨i, hi, rfl⟩ := mem_gt he
    have := hd.ent i hi
    omega
theorem wick_num {w : Wick} (h : wickB w = true) : (0 ≤ w.price ∧ w.price ≤ 100) ∧ (0 ≤ w.fine ∧ w.fine ≤ 100) ∧ (0 ≤ w.wait ∧ w.wait ≤ 100) := by
  simp only [wickB, tillB, Bool.and_eq_true, inB, decide_eq_true_eq] at h
  exact ⟨h.1.1.1.2, h.1.1.2, h.1.2⟩
theorem till_ok {w : Wick} {d : Day} (hw : wickB w = true) (hd : DayOk w d) : tillB (tillW w d) = true := by
  have := wick_num hw
  simp only [tillB, Bool.and_eq_true, inB, decide_eq_true_eq]
  exact ⟨⟨⟨hd.tks, this.1⟩, this.2.1⟩, this.2.2⟩
theorem ents_ok {w : Wick} {d : Day} (hd : DayOk w d) : d.book.all (entB (tillW w d)) = true := by
  rw [all_iff]
  intro i hi
  have := hd.ent i hi
  have e : (tillW w d).tk.l = d.tks := rfl
  simp only [entB, isT, inB, Bool.and_eq_true, decide_eq_true_eq, e]
  omega
theorem told_at {w : Wick} {d : Day} (hw : wickB w = true) (hd : DayOk w d) : toldE (tillW w d) d.book = tksE (tksW w d) true := by
  have h1 : tillE (tillW w d) d.book true = 0 := by
    have := ent_len hd
    unfold tillE
    rw [if_neg (by rw [till_ok hw hd]; simp), if_neg (by omega), if_neg (by simp), if_neg (by rw [ents_ok hd]; simp)]
  unfold toldE
  rw [if_neg (by rw [h1]; simp)]; rfl
theorem told_10 {w : Wick} {d : Day} (hd : DayOk w d) : tksE (tksW w d) true = 0 ∨ tksE (tksW w d) true = 10 := by
  unfold tksE
  rw [if_neg (by rw [hd.tks]; simp), if_neg (by simp)]
  split
  · exact .inr rfl
  · exact .inl rfl
theorem check_at {w : Wick} {d : Day} (hw : wickB w = true) (hd : DayOk w d) : ((CheckOut (tillW w d) d.book).2.2 = 0 ∧ (CheckOut (tillW w d) d.book).2.1 = 2 ∧ 0 ≤ (CheckOut (tillW w d) d.book).1 ∧ (CheckOut (tillW w d) d.book).1 < 15) ∨ (CheckOut (tillW w d) d.book).2.2 = 4 ∨ (CheckOut (tillW w d) d.book).2.2 = 10 := by
  unfold CheckOut
  rw [told_at hw hd]
  rcases told_10 hd with h | h
  · rw [if_neg (by rw [h]; simp)]
    cases hb : brokL (tillW w d) d.book d.book.length with
    | nil => exact .inr (.inl rfl)
    | cons i r =>
      left
      have hi : i ∈ brokL (tillW w d) d.book d.book.length := by rw [hb]; simp
      unfold brokL at hi
      rw [List.mem_filter, List.mem_range] at hi
      have h15 := ent_len hd
      refine ⟨rfl, ?_, by show (0 : Int) ≤ (i : Int); omega, by show (i : Int) < 15; omega⟩
      have h2 := of_decide_eq_true hi.2
      show ruleI (tillW w d) d.book i = 2
      unfold ruleI at h2 ⊢
      rw [hd.once i hi.1] at h2 ⊢
      rw [if_neg (by simp)] at h2 ⊢
      split at h2
      · rename_i h3; rw [if_pos h3]
      · exact absurd rfl h2
  · rw [if_pos (by rw [h]; decide)]
    exact .inr (.inr h)
def RepOk (d : Day) (r : Rep) : Prop := (∃ e, e ≠ 0 ∧ r = errD d e) ∨ (r.2.2 = 0 ∧ r.2.1 ≠ [])
theorem rep_ne {s : Bs} (hs : s ≠ []) (l : List Int) : repL s l ≠ [] := by
  unfold repL
  intro e
  exact hs (List.append_eq_nil_iff.1 e).1
theorem ask_rep (d : Day) {s : Bs} (hs : s ≠ []) (r : List Int) (e : Int) : RepOk d (askD d s r e) := by
  unfold askD
  split
  · rename_i h; exact .inl ⟨e, h, rfl⟩
  · exact .inr ⟨rfl, rep_ne hs r⟩
theorem sell_rep (w : Wick) (d : Day) (x : Tick) : RepOk d (sellD w d x) := by
  unfold sellD
  split
  · exact .inl ⟨9, by decide, rfl⟩
  · split
    · exact .inl ⟨2, by decide, rfl⟩
    · exact .inr ⟨rfl, rep_ne (by decide) _⟩
theorem look_rep (w : Wick) (d : Day) (x : Look) : RepOk d (lookD w d x) := by
  unfold lookD
  split
  · exact .inl ⟨9, by decide, rfl⟩
  · split
    · exact .inl ⟨2, by decide, rfl⟩
    · exact .inr ⟨rfl, rep_ne (by decide) _⟩
theorem book_rep (d : Day) (x : Ent) : RepOk d (bookD d x) := by
  unfold bookD
  split
  · exact .inl ⟨2, by decide, rfl⟩
  · split
    · exact .inl ⟨5, by decide, rfl⟩
    · exact .inr ⟨rfl, rep_ne (by decide) _⟩
def askW : List Bs := [turnS, whoseS, freeS, depthS_, firstS, bookS, sumS]
def putW : List Bs := [ticketS, lookS, payS, fineS, backS]
theorem word_in {p : Bs} {n : Nat} (h : wordN p = some n) : p ∈ askW ∨ p ∈ putW := by
  unfold wordN at h
  by_cases h0 : p = ticketS
  · subst h0; exact .inr (by decide)
  rw [if_neg h0] at h
  by_cases h1 : p = lookS
  · subst h1; exact .inr (by decide)
  rw [if_neg h1] at h
  by_cases h2 : p = turnS
  · subst h2; exact .inl (by decide)
  rw [if_neg h2] at h
  by_cases h3 : p = whoseS
  · subst h3; exact .inl (by decide)
  rw [if_neg h3] at h
  by_cases h4 : p = freeS
  · subst h4; exact .inl (by decide)
  rw [if_neg h4] at h
  by_cases h5 : p = depthS_
  · subst h5; exact .inl (by decide)
  rw [if_neg h5] at h
  by_cases h6 : p = firstS
  · subst h6; exact .inl (by decide)
  rw [if_neg h6] at h
  by_cases h7 : p = bookS
  · subst h7; exact .inl (by decide)
  rw [if_neg h7] at h
  by_cases h8 : p = sumS
  · subst h8; exact .inl (by decide)
  rw [if_neg h8] at h
  by_cases h9 : p = payS
  · subst h9; exact .inr (by decide)
  rw [if_neg h9] at h
  by_cases h10 : p = fineS
  · subst h10; exact .inr (by decide)
  rw [if_neg h10] at h
  by_cases h11 : p = backS
  · subst h11; exact .inr (by decide)
  rw [if_neg h11] at h
  cases h
theorem do_ask (w : Wick) (d : Day) (l : List Int) {p : Bs} (h : p ∈ askW) : (doD w d p l).1 = d ∧ RepOk d (doD w d p l) := by
  simp only [askW, List.mem_cons, List.not_mem_nil, or_false] at h
  rcases h with rfl | rfl | rfl | rfl | rfl | rfl | rfl
  · rw [do_turn]; exact ⟨ask_day .., ask_rep d (by decide) _ _⟩
  · rw [do_whose]; exact ⟨ask_day .., ask_rep d (by decide) _ _⟩
  · rw [do_free]; exact ⟨ask_day .., ask_rep d (by decide) _ _⟩
  · rw [do_depth]; exact ⟨ask_day .., ask_rep d (by decide) _ _⟩
  · rw [do_first]; exact ⟨ask_day .., ask_rep d (by decide) _ _⟩
  · rw [do_book]
    split
    · exact ⟨rfl, .inr ⟨rfl, (show bookS ≠ [] by decide)⟩⟩
    · exact ⟨ask_day .., ask_rep d (by decide) _ _⟩
  · rw [do_sum]; exact ⟨ask_day .., ask_rep d (by decide) _ _⟩
theorem do_put (w : Wick) (d : Day) (l : List Int) {p : Bs} (h : p ∈ putW) : RepOk d (doD w d p l) := by
  simp only [putW, List.mem_cons, List.not_mem_nil, or_false] at h
  rcases h with rfl | rfl | rfl | rfl | rfl
  · rw [do_ticket]; exact sell_rep w d _
  · rw [do_look]; exact look_rep w d _
  · rw [do_pay]; exact book_rep d _
  · rw [do_fine]; exact book_rep d _
  · rw [do_back]; exact book_rep d _
theorem line_rep (w : Wick) (d : Day) (s : Bs) : RepOk d (lineD w d s) := by
  unfold lineD
  split
  · exact .inl ⟨3, by decide, rfl⟩
  · split
    · exact .inl ⟨8, by decide, rfl⟩
    · rename_i n hn
      split
      · exact .inl ⟨8, by decide, rfl⟩
      · split
        · exact .inl ⟨8, by decide, rfl⟩
        · rcases word_in hn with h | h
          · exact (do_ask w d _ h).2
          · exact do_put w d _ h
theorem rep_err {d : Day} {r : Rep} (h : RepOk d r) (he : r.2.2 ≠ 0) : r.1 = d ∧ r.2.1 = [] := by
  rcases h with ⟨e, _, rfl⟩ | ⟨h1, _⟩
  · exact ⟨rfl, rfl⟩
  · exact absurd h1 he
theorem lines_app (w : Wick) : ∀ (a b : List Bs) (d : Day), linesD w d (a ++ b) = linesD w (linesD w d a) b
  | [], _, _ => rfl
  | _ :: a, b, d => by rw [List.cons_append, linesD, linesD, lines_app w a b]
theorem reps_app (w : Wick) : ∀ (a : List Bs) (s : Bs) (d : Day), repsD w d (a ++ [s]) = ((repsD w d a).1 ++ [(lineD w (linesD w d a) s).2.1], (repsD w d a).2 + if (lineD w (linesD w d a) s).2.2 ≠ 0 then 1 else 0)
  | [], s, d => by
    show ([(lineD w d s).2.1], (if (lineD w d s).2.2 ≠ 0 then 1 else 0) + 0) = ([] ++ [(lineD w d s).2.1], 0 + if (lineD w d s).2.2 ≠ 0 then 1 else 0)
    rw [Nat.add_zero, Nat.zero_add]; rfl
  | b :: a, s, d => by
    rw [List.cons_append, repsD, reps_app w a s]
    simp only [repsD, linesD, List.cons_append]
    rw [Nat.add_assoc]; rfl
theorem take_gt {α : Type} [Inhabited α] {l : List α} {k : Nat} (h : k < l.length) : l.take (k + 1) = l.take k ++ [gt l k] := by
  have hg : gt l k = l[k] := by simp [gt, List.getD, h]
  rw [List.take_succ_eq_append_getElem h, hg]
theorem lines_take (w : Wick) (d : Day) {l : List Bs} {k : Nat} (h : k < l.length) : linesD w d (l.take (k + 1)) = (lineD w (linesD w d (l.take k)) (gt l k)).1 := by
  rw [take_gt h, lines_app]; rfl
theorem reps_take (w : Wick) (d : Day) {l : List Bs} {k : Nat} (h : k < l.length) : repsD w d (l.take (k + 1)) = ((repsD w d (l.take k)).1 ++ [(lineD w (linesD w d (l.take k)) (gt l k)).2.1], (repsD w d (l.take k)).2 + if (lineD w (linesD w d (l.take k)) (gt l k)).2.2 ≠ 0 then 1 else 0) := by
  rw [take_gt h, reps_app]
theorem reps_len (w : Wick) : ∀ (l : List Bs) (d : Day), (repsD w d l).1.length = l.length ∧ (repsD w d l).2 ≤ l.length
  | [], _ => ⟨rfl, Nat.le_refl _⟩
  | s :: l, d => by
    have := reps_len w l (lineD w d s).1
    simp only [repsD, List.length_cons]
    refine ⟨by rw [this.1], ?_⟩
    split <;> omega
end Go.Ti
namespace Go.Proofs.YtejgofaeafphjaaGreatDoor
open Go.W Go.Ti
def sumU (l : List Int) : Nat := (l.map fun n => 2 ^ n.toNat).sum
def setN (T : Tide) (h : Hts) (p k : Nat) : Nat := sumU (((rng (gt T.sand p).lo (gt T.sand p).hi).take k).filter (sandB T h p))
def setU (T : Tide) (h : Hts) (p : Nat) : Nat := sumU (setL T h p)
theorem every_bit {n j : Nat} (hn : n ≤ 6) (hj : j < n) : (2 ^ n - 1) / 2 ^ j % 2 = 1 := by
  have h : ∀ n, n < 7 → ∀ j, j < n → (2 ^ n - 1) / 2 ^ j % 2 = 1 := by decide
  exact h n (by omega) j hj
theorem setN_succ {T : Tide} {h : Hts} {p k : Nat} (hk : k < ((gt T.sand p).hi - (gt T.sand p).lo + 1).toNat) : setN T h p (k + 1) = setN T h p k + if sandB T h p ((gt T.sand p).lo + (k : Int)) then 2 ^ ((gt T.sand p).lo + (k : Int)).toNat else 0 := by
  have hl : k < (rng (gt T.sand p).lo (gt T.sand p).hi).length := by rw [rng_len]; exact hk
  unfold setN sumU
  rw [take_gt hl, List.filter_append, List.map_append, List.sum_append, gt_rng hk]
  congr 1
  generalize (gt T.sand p).lo + (k : Int) = n
  cases hb : sandB T h p n <;> simp [hb]
theorem setN_lt {T : Tide} {h : Hts} {p : Nat} (hlo : 0 ≤ (gt T.sand p).lo) : ∀ k, k ≤ ((gt T.sand p).hi - (gt T.sand p).lo + 1).toNat → setN T h p k < 2 ^ ((gt T.sand p).lo + (k : Int)).toNat
  | 0, _ => by simp [setN, sumU, Nat.two_pow_pos]
  | k + 1, hk => by
    have ih := setN_lt (h := h) hlo k (by omega)
    rw [setN_succ (by omega)]
    have e : ((gt T.sand p).lo + ((k + 1 : Nat) : Int)).toNat = ((gt T.sand p).lo + (k : Int)).toNat + 1 := by omega
    rw [e, Nat.pow_succ]
    split <;> omega
theorem setN_all (T : Tide) (h : Hts) (p : Nat) : setN T h p ((gt T.sand p).hi - (gt T.sand p).lo + 1).toNat = setU T h p := by
  unfold setN setU setL
  rw [List.take_of_length_le (by rw [rng_len]; exact Nat.le_refl _)]
theorem or_add {a i : Nat} (h : a < 2 ^ i) : a ||| 2 ^ i = a + 2 ^ i := by
  have := Nat.two_pow_add_eq_or_of_lt h 1
  rw [Nat.mul_one] at this
  rw [Nat.or_comm, ← this, Nat.add_comm]
def fitsTo (T : Tide) (h : Hts) (p : Nat) (n : Int) (j : Nat) : Bool := (T.looks.take j).all fun l => !decide (l.place = (p : Int)) || fitB l (standsI T h l.minute) n
theorem fits_succ {T : Tide} {h : Hts} {p : Nat} {n : Int} {j : Nat} (hj : j < T.looks.length) : fitsTo T h p n (j + 1) = (fitsTo T h p n j && (!decide ((gt T.looks j).place = (p : Int)) || fitB (gt T.looks j) (standsI T h (gt T.looks j).minute) n)) := by
  unfold fitsTo
  rw [take_gt hj, List.all_append]
  simp
theorem fits_all (T : Tide) (h : Hts) (p : Nat) (n : Int) : fitsTo T h p n T.looks.length = sandB T h p n := by
  unfold fitsTo sandB
  rw [List.take_length]
end Go.Proofs.YtejgofaeafphjaaGreatDoor
namespace Go.Proofs.YtejgofaeafphjaaGreatDoor
open Go.W Go.Ti
theorem SA362 : StructAt Tryz.prog 362 [] [] := ⟨⟨_, Tryz.zeroValue362, rfl⟩, _, Tryz.underlying362, fun w => by simp []⟩
@[reducible, instance] def ISA362 := SaF.mk SA362
theorem SA366 : StructAt Tryz.prog 366 [.int .i64 0, .int .i64 0] [(0, 0), (0, 2)] := ⟨⟨_, Tryz.zeroValue366, rfl⟩, _, Tryz.underlying366, fun w => by simp [Tryz.sizeOf39, Tryz.sizeOf362]⟩
@[reducible, instance] def ISA366 := SaF.mk SA366
theorem sand_g (T : Tide) (a1 a2 a3 : Option Addr) (n1 n2 n3 c1 c2 c3 : Nat) (D : Imm) (w : World) (hR : TideR D T a1 n1 a2 n2 a3 n3) (qb mb : Nat) (hq : D qb = some (shoO (.slice a1 n1 c1) (.slice a2 n2 c2) (.slice a3 n3 c3) mb)) (hH : Holds D w) (hT : TideOk T) (hdn : DoneD D) (h : Hts) (hh : HtB h) (p : Nat) (hp : p < T.sand.length) (hM0 : Hp) (hMM0 : MapK T mb hM0) (hI0 : Inv D hM0 [mb] w w) : AltersN Tryz.prog 238 [pt qb, htV h, nt p, ut (2 ^ T.looks.length - 1)] w D [mb] (fun v D' hp' => v = ut (setU T h p) ∧ D' = D ∧ MapK T mb hp') := by
  unfold AltersN
  obtain rfl := hR.mark.len'
  obtain rfl := hR.sand.len'
  obtain rfl := hR.look.len'
  obtain ⟨hl1, hl2, hl3⟩ := hR.len
  have hs := narrow_iff.1 (hT.sand p hp)
  refine en Tryz.func238 rfl Tryz.ntmps238 hI0 (g [[1],[1,0,1,2,3]] ?_)
  refine WL.so (SO.box rfl rfl) rfl (zw fun b5 hb5 => ?_)
  refine g [[5],[7,8,5,0,2,3]] ?_
  refine WL.yd (Yd.ix rfl rfl (hR.sand.addr p (by omega))) rfl (g [[1]] ?_)
  refine WL.yd (Yd.l1 rfl ((hR.sand.at p (by omega)).rd 0 rfl)) rfl (g [[4]] ?_)
  refine WC.loop (fun y : Nat × Hp => [(0, pt qb), (2, nt p), (3, ut (2 ^ T.looks.length - 1)), (5, pt b5), (8, ut (setN T h p y.1)), (9, it ((gt T.sand p).lo + ((y.1 : Nat) : Int)))]) (fun y => (b5, .cells (List.toArray (htC h)) 232 (0, 0)) :: y.2) (fun _ => D) (fun y => y.1 ≤ ((gt T.sand p).hi - (gt T.sand p).lo + 1).toNat ∧ MapK T mb y.2) (fun y => ((gt T.sand p).hi - (gt T.sand p).lo + 1).toNat - y.1) (0, hM0) ⟨by omega, hMM0⟩ (fun a w h => at_fr h ⟨rfl, rfl, rfl, rfl, rfl, by show some (it _) = some (it _); congr 2; push_cast; omega, trivial⟩) ?_
  rintro ⟨k, hM⟩ ⟨hk, hMM⟩
  dsimp only at hk hMM
  refine g [[2],[8,0,2,3,5,8,9]] ?_
  refine WL.yd (Yd.ix rfl rfl (hR.sand.addr p (by omega))) rfl (g [[1]] ?_)
  refine WL.yd (Yd.l1 rfl ((hR.sand.at p (by omega)).rd 1 rfl)) rfl (g [[3]] ?_)
  refine WC.cond rfl (fun c33 => ?_) (fun c33 => ?_)
  · try simp only [zq] at c33
    have hkW : k < ((gt T.sand p).hi - (gt T.sand p).lo + 1).toNat := by omega
    refine g [[5],[6,0,2,3,5,8,9],[11,10,0,2,3,5,8,9]] ?_
    refine WC.loop (fun y : Nat × Hp => [(0, pt qb), (2, nt p), (3, ut (2 ^ T.looks.length - 1)), (5, pt b5), (8, ut (setN T h p k)), (9, it ((gt T.sand p).lo + ((k : Nat) : Int))), (10, .bool (fitsTo T h p ((gt T.sand p).lo + ((k : Nat) : Int)) y.1)), (40, .slice a3 T.looks.length c3), (41, nt T.looks.length), (42, nt y.1)]) (fun y => (b5, .cells (List.toArray (htC h)) 232 (0, 0)) :: y.2) (fun _ => D) (fun y => y.1 ≤ T.looks.length ∧ MapK T mb y.2) (fun y => T.looks.length - y.1) (0, hM) ⟨by omega, hMM⟩ (fun a w h => at_fr h ⟨rfl, rfl, rfl, rfl, rfl, rfl, rfl, rfl, rfl, rfl, trivial⟩) ?_
    rintro ⟨j, hM2⟩ ⟨hj, hMM2⟩
    dsimp only at hj hMM2
    obtain ⟨es, clock, F, rfl, hMR, hFK⟩ := hMM2
    refine g [[1],[5,0,2,3,5,8,9,10,40,41,42]] ?_
    refine WC.cond rfl (fun c43 => ?_) (fun c43 => ?_)
    · try simp only [zq] at c43
      have hjl : j < T.looks.length := by omega
      have hlm := (look_iff.1 (hT.look j hjl)).2.1
      have hsn := stands_num hT (h := h) (fun i _ => hh i) hlm
      have hnb : 0 ≤ ((gt T.sand p).lo + ((k : Nat) : Int)) ∧ ((gt T.sand p).lo + ((k : Nat) : Int)) ≤ 60 := by omega
      have hev := every_bit hT.nl hjl
      have hj60 : j ≤ 60 := by have := hT.nl; omega
      refine g [[5],[2,0,2,3,5,8,9,10,40,41,42]] ?_
      refine WL.yd (Yd.ix rfl rfl (hR.look.addr j (by omega))) rfl (WL.yd (Yd.lV [_, _, _, _] rfl ((hR.look.at j (by omega)).rdn 0 4 rfl)) rfl ?_)
      refine WL.so (SO.alloc ZvF.h rfl) rfl (zw fun b12 hb12 => ?_)
      refine g [[5],[8,11,12,0,2,3,5,8,9,10,40,41,42],[6,13,11,12,0,2,3,5,8,9,10,40,41,42]] ?_
      refine WL.part 53 rfl (fun g53 => ?_) (fun g53 => ?_)
      · try simp only [zq] at g53
        refine g [[2]] ?_
        refine WL.ydg rfl (Yd.shrUN rfl rfl (by omega)) rfl (WL.ydg rfl (Yd.andU1 rfl rfl) rfl (g [[4]] ?_))
        refine WC.cond rfl (fun c59 => ?_) (fun c59 => ?_)
        · try simp only [zq] at c59
          refine g [[9,13,12,0,2,3,5,8,9,10,40,41,42],[0,13,12,0,2,3,5,8,9,10,40,41,42]] ?_
          refine WC.drawO [_, _] (pz [1,3,5,7,9,11,13,17,19,21,23,14,24,27,29]) zk zk zX (fun _ hI => Inv.left (l1 := [_, _]) (l2 := [_]) hI) (g [[2]] ?_)
          refine WA.part 66 rfl (fun g66 => ?_) (fun g66 => ?_)
          · try simp only [zq] at g66
            refine g [[7]] ?_
            refine WA.ydg rfl rfl (Yd.nilCheckM rfl (fun w => by kernel_rfl)) rfl (g [[1]] ?_)
            refine WA.sog rfl rfl (SO.altersN (own := [_, _]) (hpc := [(mb, .map es clock)]) (fun _ h => h) (fun h => h) (fun _ h => h) (fun _ h => h) (Enters.func CaF.h rfl) (fun w1 hI => stands_g T a1 a2 a3 _ _ _ c1 c2 c3 D w1 hR qb mb hq hI.imm hT hdn h (gt T.looks j).minute hh hlm es clock F hMR hFK hI)) rfl ?_
            rintro _ _ _ ⟨hp3, _, ⟨rfl, rfl, es2, clock2, F2, rfl, hMR2, hFK2⟩, rfl⟩
            refine ⟨fun _ hI => Inv.left (l1 := [_, _]) hI, ?_⟩
            refine WA.sog rfl rfl (SO.call (Enters.meth CaF.h (fun w => by kernel_rfl) rfl rfl) (fun w hI => fits1_g (gt T.looks j) (standsI T h (gt T.looks j).minute) ((gt T.sand p).lo + ((k : Nat) : Int)) hsn hnb _)) rfl ?_
            rintro _ _ _ ⟨rfl, rfl, rfl⟩
            refine ⟨fun _ hI => Inv.left (l1 := [_, _]) hI, ?_⟩
            refine g [[5],[4,10,0,2,3,5,8,9,40,41,42]] ?_
            first
              | exact WP.again (⟨j + 1, [(mb, .map es2 clock2)]⟩ : Nat × Hp) ⟨by simp only; omega, es2, clock2, F2, rfl, hMR2, hFK2⟩ (by simp only; omega) (fun a w h => at_less h ⟨rfl, rfl, rfl, rfl, rfl, rfl, by show some (Value.bool _) = some (.bool _); congr 2; rw [fits_succ hjl]; simp_all, rfl, rfl, rfl, trivial⟩ (fun _ h => List.mem_cons_of_mem _ h) (fun h => (List.nodup_cons.1 h).2))
              | exact WP.again (⟨j + 1, [(mb, .map es clock)]⟩ : Nat × Hp) ⟨by simp only; omega, es, clock, F, rfl, hMR, hFK⟩ (by simp only; omega) (fun a w h => at_less h ⟨rfl, rfl, rfl, rfl, rfl, rfl, by show some (Value.bool _) = some (.bool _); congr 2; rw [fits_succ hjl]; simp_all, rfl, rfl, rfl, trivial⟩ (fun _ h => List.mem_cons_of_mem _ h) (fun h => (List.nodup_cons.1 h).2))
          try simp only [zq] at g66
          refine g [[16],[4,10,0,2,3,5,8,9,40,41,42]] ?_
          first
            | exact WP.again (⟨j + 1, [(mb, .map es2 clock2)]⟩ : Nat × Hp) ⟨by simp only; omega, es2, clock2, F2, rfl, hMR2, hFK2⟩ (by simp only; omega) (fun a w h => at_less h ⟨rfl, rfl, rfl, rfl, rfl, rfl, by show some (Value.bool _) = some (.bool _); congr 2; rw [fits_succ hjl]; simp_all, rfl, rfl, rfl, trivial⟩ (fun _ h => List.mem_cons_of_mem _ h) (fun h => (List.nodup_cons.1 h).2))
            | exact WP.again (⟨j + 1, [(mb, .map es clock)]⟩ : Nat × Hp) ⟨by simp only; omega, es, clock, F, rfl, hMR, hFK⟩ (by simp only; omega) (fun a w h => at_less h ⟨rfl, rfl, rfl, rfl, rfl, rfl, by show some (Value.bool _) = some (.bool _); congr 2; rw [fits_succ hjl]; simp_all, rfl, rfl, rfl, trivial⟩ (fun _ h => List.mem_cons_of_mem _ h) (fun h => (List.nodup_cons.1 h).2))
        try simp only [zq] at c59
        refine g [[2],[0,13,12,0,2,3,5,8,9,10,40,41,42]] ?_
        refine WC.drawO [_, _] (pz [1,3,5,7,9,11,13,17,19,21,23,14,24,27,29]) zk zk zX (fun _ hI => Inv.left (l1 := [_, _]) (l2 := [_]) hI) (g [[2]] ?_)
        refine WA.part 66 rfl (fun g66 => ?_) (fun g66 => ?_)
        · try simp only [zq] at g66
          refine g [[7]] ?_
          refine WA.ydg rfl rfl (Yd.nilCheckM rfl (fun w => by kernel_rfl)) rfl (g [[1]] ?_)
          refine WA.sog rfl rfl (SO.altersN (own := [_, _]) (hpc := [(mb, .map es clock)]) (fun _ h => h) (fun h => h) (fun _ h => h) (fun _ h => h) (Enters.func CaF.h rfl) (fun w1 hI => stands_g T a1 a2 a3 _ _ _ c1 c2 c3 D w1 hR qb mb hq hI.imm hT hdn h (gt T.looks j).minute hh hlm es clock F hMR hFK hI)) rfl ?_
          rintro _ _ _ ⟨hp3, _, ⟨rfl, rfl, es2, clock2, F2, rfl, hMR2, hFK2⟩, rfl⟩
          refine ⟨fun _ hI => Inv.left (l1 := [_, _]) hI, ?_⟩
          refine WA.sog rfl rfl (SO.call (Enters.meth CaF.h (fun w => by kernel_rfl) rfl rfl) (fun w hI => fits0_g _ _ _)) rfl ?_
          rintro _ _ _ ⟨rfl, rfl, rfl⟩
          refine ⟨fun _ hI => Inv.left (l1 := [_, _]) hI, ?_⟩
          refine g [[5],[4,10,0,2,3,5,8,9,40,41,42]] ?_
          first
            | exact WP.again (⟨j + 1, [(mb, .map es2 clock2)]⟩ : Nat × Hp) ⟨by simp only; omega, es2, clock2, F2, rfl, hMR2, hFK2⟩ (by simp only; omega) (fun a w h => at_less h ⟨rfl, rfl, rfl, rfl, rfl, rfl, by show some (Value.bool _) = some (.bool _); congr 2; rw [fits_succ hjl]; simp_all, rfl, rfl, rfl, trivial⟩ (fun _ h => List.mem_cons_of_mem _ h) (fun h => (List.nodup_cons.1 h).2))
            | exact WP.again (⟨j + 1, [(mb, .map es clock)]⟩ : Nat × Hp) ⟨by simp only; omega, es, clock, F, rfl, hMR, hFK⟩ (by simp only; omega) (fun a w h => at_less h ⟨rfl, rfl, rfl, rfl, rfl, rfl, by show some (Value.bool _) = some (.bool _); congr 2; rw [fits_succ hjl]; simp_all, rfl, rfl, rfl, trivial⟩ (fun _ h => List.mem_cons_of_mem _ h) (fun h => (List.nodup_cons.1 h).2))
        try simp only [zq] at g66
        refine g [[16],[4,10,0,2,3,5,8,9,40,41,42]] ?_
        first
          | exact WP.again (⟨j + 1, [(mb, .map es2 clock2)]⟩ : Nat × Hp) ⟨by simp only; omega, es2, clock2, F2, rfl, hMR2, hFK2⟩ (by simp only; omega) (fun a w h => at_less h ⟨rfl, rfl, rfl, rfl, rfl, rfl, by show some (Value.bool _) = some (.bool _); congr 2; rw [fits_succ hjl]; simp_all, rfl, rfl, rfl, trivial⟩ (fun _ h => List.mem_cons_of_mem _ h) (fun h => (List.nodup_cons.1 h).2))
          | exact WP.again (⟨j + 1, [(mb, .map es clock)]⟩ : Nat × Hp) ⟨by simp only; omega, es, clock, F, rfl, hMR, hFK⟩ (by simp only; omega) (fun a w h => at_less h ⟨rfl, rfl, rfl, rfl, rfl, rfl, by show some (Value.bool _) = some (.bool _); congr 2; rw [fits_succ hjl]; simp_all, rfl, rfl, rfl, trivial⟩ (fun _ h => List.mem_cons_of_mem _ h) (fun h => (List.nodup_cons.1 h).2))
      try simp only [zq] at g53
      refine g [[11],[0,13,12,0,2,3,5,8,9,10,40,41,42]] ?_
      refine WC.drawO [_, _] (pz [1,3,5,7,9,11,13,17,19,21,23,14,24,27,29]) zk zk zX (fun _ hI => Inv.left (l1 := [_, _]) (l2 := [_]) hI) (g [[2]] ?_)
      refine WA.part 66 rfl (fun g66 => ?_) (fun g66 => ?_)
      · try simp only [zq] at g66
        refine g [[7]] ?_
        refine WA.ydg rfl rfl (Yd.nilCheckM rfl (fun w => by kernel_rfl)) rfl (g [[1]] ?_)
        refine WA.sog rfl rfl (SO.altersN (own := [_, _]) (hpc := [(mb, .map es clock)]) (fun _ h => h) (fun h => h) (fun _ h => h) (fun _ h => h) (Enters.func CaF.h rfl) (fun w1 hI => stands_g T a1 a2 a3 _ _ _ c1 c2 c3 D w1 hR qb mb hq hI.imm hT hdn h (gt T.looks j).minute hh hlm es clock F hMR hFK hI)) rfl ?_
        rintro _ _ _ ⟨hp3, _, ⟨rfl, rfl, es2, clock2, F2, rfl, hMR2, hFK2⟩, rfl⟩
        refine ⟨fun _ hI => Inv.left (l1 := [_, _]) hI, ?_⟩
        refine WA.sog rfl rfl (SO.call (Enters.meth CaF.h (fun w => by kernel_rfl) rfl rfl) (fun w hI => fits0_g _ _ _)) rfl ?_
        rintro _ _ _ ⟨rfl, rfl, rfl⟩
        refine ⟨fun _ hI => Inv.left (l1 := [_, _]) hI, ?_⟩
        refine g [[5],[4,10,0,2,3,5,8,9,40,41,42]] ?_
        first
          | exact WP.again (⟨j + 1, [(mb, .map es2 clock2)]⟩ : Nat × Hp) ⟨by simp only; omega, es2, clock2, F2, rfl, hMR2, hFK2⟩ (by simp only; omega) (fun a w h => at_less h ⟨rfl, rfl, rfl, rfl, rfl, rfl, by show some (Value.bool _) = some (.bool _); congr 2; rw [fits_succ hjl]; simp_all, rfl, rfl, rfl, trivial⟩ (fun _ h => List.mem_cons_of_mem _ h) (fun h => (List.nodup_cons.1 h).2))
          | exact WP.again (⟨j + 1, [(mb, .map es clock)]⟩ : Nat × Hp) ⟨by simp only; omega, es, clock, F, rfl, hMR, hFK⟩ (by simp only; omega) (fun a w h => at_less h ⟨rfl, rfl, rfl, rfl, rfl, rfl, by show some (Value.bool _) = some (.bool _); congr 2; rw [fits_succ hjl]; simp_all, rfl, rfl, rfl, trivial⟩ (fun _ h => List.mem_cons_of_mem _ h) (fun h => (List.nodup_cons.1 h).2))
      try simp only [zq] at g66
      refine g [[16],[4,10,0,2,3,5,8,9,40,41,42]] ?_
      first
        | exact WP.again (⟨j + 1, [(mb, .map es2 clock2)]⟩ : Nat × Hp) ⟨by simp only; omega, es2, clock2, F2, rfl, hMR2, hFK2⟩ (by simp only; omega) (fun a w h => at_less h ⟨rfl, rfl, rfl, rfl, rfl, rfl, by show some (Value.bool _) = some (.bool _); congr 2; rw [fits_succ hjl]; simp_all, rfl, rfl, rfl, trivial⟩ (fun _ h => List.mem_cons_of_mem _ h) (fun h => (List.nodup_cons.1 h).2))
        | exact WP.again (⟨j + 1, [(mb, .map es clock)]⟩ : Nat × Hp) ⟨by simp only; omega, es, clock, F, rfl, hMR, hFK⟩ (by simp only; omega) (fun a w h => at_less h ⟨rfl, rfl, rfl, rfl, rfl, rfl, by show some (Value.bool _) = some (.bool _); congr 2; rw [fits_succ hjl]; simp_all, rfl, rfl, rfl, trivial⟩ (fun _ h => List.mem_cons_of_mem _ h) (fun h => (List.nodup_cons.1 h).2))
    try simp only [zq] at c43
    obtain rfl : j = T.looks.length := by omega
    refine g [[6]] ?_
    have hMM2 : MapK T mb [(mb, .map es clock)] := ⟨es, clock, F, rfl, hMR, hFK⟩
    refine g [[4,0,2,3,5,8,9,10]] ?_
    refine WC.cond rfl (fun c80 => ?_) (fun c80 => ?_)
    · try simp only [zq] at c80
      refine g [[3,0,2,3,5,8,9]] ?_
      refine WL.know 82 (nt ((gt T.sand p).lo + ((k : Nat) : Int)).toNat) rfl (by show it _ = it _; congr 1; omega) ?_
      have hs63 : setN T h p k < 2 ^ 63 := Nat.lt_trans (setN_lt hs.1.1 k (by omega)) (Nat.pow_lt_pow_right (by omega) (by omega))
      have hn63 : 2 ^ ((gt T.sand p).lo + ((k : Nat) : Int)).toNat < 2 ^ 63 := Nat.pow_lt_pow_right (by omega) (by omega)
      refine WL.yd (Yd.shlU rfl rfl (by omega)) rfl (WL.yd (Yd.orU hs63 hn63 rfl rfl) rfl (g [[4],[5,8,0,2,3,5,9]] ?_))
      exact WP.again (⟨k + 1, [(mb, .map es clock)]⟩ : Nat × Hp) ⟨by simp only; omega, hMM2⟩ (by simp only; omega) (fun a w h => at_fr h ⟨rfl, rfl, rfl, rfl, by show some (ut _) = some (ut _); congr 2; rw [setN_succ hkW, ← fits_all]; first | (rw [c80, if_pos rfl, or_add (setN_lt hs.1.1 k (by omega))]) | (rw [c80]; rfl), by show some (it _) = some (it _); congr 2; push_cast; omega, trivial⟩)
    try simp only [zq] at c80
    refine g [[3],[5,0,2,3,5,8,9]] ?_
    exact WP.again (⟨k + 1, [(mb, .map es clock)]⟩ : Nat × Hp) ⟨by simp only; omega, hMM2⟩ (by simp only; omega) (fun a w h => at_fr h ⟨rfl, rfl, rfl, rfl, by show some (ut _) = some (ut _); congr 2; rw [setN_succ hkW, ← fits_all]; first | (rw [c80, if_pos rfl, or_add (setN_lt hs.1.1 k (by omega))]) | (rw [c80]; rfl), by show some (it _) = some (it _); congr 2; push_cast; omega, trivial⟩)
  try simp only [zq] at c33
  obtain rfl : k = ((gt T.sand p).hi - (gt T.sand p).lo + 1).toNat := by omega
  refine g [[6],[6,8]] ?_
  refine WP.ret1 rfl rfl rfl (RV.tmp rfl) (fun w1 hI => ⟨_, D, hM, rfl, DExt.refl _ _, hI.drop 1, by rw [← setN_all], rfl, hMM⟩)
end Go.Proofs.YtejgofaeafphjaaGreatDoor
namespace Go.Proofs.YtejgofaeafphjaaGreatDoor
open Go.W Go.Ti
def tdC (T : Tide) (h : Hts) : List Value := htC h ++ (List.range 4).map fun p => if p < T.sand.length then ut (setU T h p) else ut 0
def tdV (T : Tide) (h : Hts) : Value := .agg (tdC T h).toArray
theorem tdC_len (T : Tide) : ∀ h, (tdC T h).length = 8 := fun _ => rfl
theorem every_g (T : Tide) (a1 a2 a3 : Option Addr) (n1 n2 n3 c1 c2 c3 : Nat) (D : Imm) (w : World) (hR : TideR D T a1 n1 a2 n2 a3 n3) (qb mb : Nat) (hq : D qb = some (shoO (.slice a1 n1 c1) (.slice a2 n2 c2) (.slice a3 n3 c3) mb)) (hH : Holds D w) (hT : TideOk T) : Gives Tryz.prog 172 [pt qb] w (ut (2 ^ T.looks.length - 1)) := by
  unfold Gives
  obtain rfl := hR.mark.len'
  obtain rfl := hR.sand.len'
  obtain rfl := hR.look.len'
  obtain ⟨hl1, hl2, hl3⟩ := hR.len
  have hnl := hT.nl
  refine en Tryz.func172 rfl Tryz.ntmps172 (Inv.start hH) (g [[1],[5,0],[7,2,0]] ?_)
  refine WL.yd (Yd.shlU rfl rfl (by omega)) rfl (WL.yd (Yd.subU (i := 2 ^ T.looks.length) (j := 1) rfl rfl (Nat.one_le_two_pow) (Nat.pow_le_pow_right (by omega) (by omega))) rfl (g [[4]] ?_))
  refine WP.ret1 rfl rfl rfl (RV.tmp rfl) (fun w hI => ⟨rfl, hI.keep⟩)
theorem truthsD_g (q n : Nat) (D : Imm) (w : World) (hH : Holds D w) : Makes Tryz.prog 171 [pt q, ut n] w D (fun v D' => ∃ b c, v = .func (.func 235) #[] #[pt b, pt c] ∧ D' b = some (.cells (List.toArray [pt q]) 134 (0, 0)) ∧ D' c = some (.cells (List.toArray [ut n]) 200 (0, 0))) := by
  unfold Makes
  refine en Tryz.func171 rfl Tryz.ntmps171 (Inv.start hH) (g [[1],[1,0,1]] ?_)
  refine WL.so (SO.box rfl rfl) rfl (zw fun b2 hb2 => ?_)
  refine WL.so (SO.box rfl rfl) rfl (zw fun b3 hb3 => ?_)
  refine g [[4]] ?_
  refine WC.freezeK 0 rfl (fun hn3 => ?_)
  refine WC.freezeK 0 rfl (fun hn2 => ?_)
  refine g [[6,4,3,2]] ?_
  refine WP.ret1 rfl rfl rfl (RV.tmp rfl) (fun w1 hI => ⟨_, _, rfl, hI.keep, hI.imm, ((DExt.refl w D).add hn3 hb3).add hn2 hb2, b2, b3, rfl, Imm.add_self _ _ _, ((DExt.refl w _).add hn2 hb2).old _ _ (Imm.add_self _ _ _)⟩)
end Go.Proofs.YtejgofaeafphjaaGreatDoor
namespace Go.Proofs.YtejgofaeafphjaaGreatDoor
open Go.W Go.Ti
def tdF (T : Tide) (rem : Nat) (h : Hts) (k : Nat) : List Hts := (hsL T rem h k).filter (truB T)
def spR (T : Tide) (k : Nat) : List Int := rng (gt T.marks k).high.lo (gt T.marks k).high.hi
theorem tdF_zero (T : Tide) (h : Hts) (k : Nat) : tdF T 0 h k = if truB T h then [h] else [] := by
  unfold tdF hsL
  cases hb : truB T h <;> simp [hb]
theorem tdF_succ (T : Tide) (rem : Nat) (h : Hts) (k : Nat) : tdF T (rem + 1) h k = (spR T k).flatMap fun n => tdF T rem (updH h k n) (k + 1) := by
  unfold tdF spR
  rw [hsL, List.filter_flatMap]
def tdN (T : Tide) (rem : Nat) (h : Hts) (k i : Nat) : Nat := (((spR T k).take i).flatMap fun n => tdF T rem (updH h k n) (k + 1)).length
theorem tdN_succ {T : Tide} {rem : Nat} {h : Hts} {k i : Nat} (hi : i < (spR T k).length) : tdN T rem h k (i + 1) = tdN T rem h k i + (tdF T rem (updH h k (gt (spR T k) i)) (k + 1)).length := by
  unfold tdN
  exact take_flat (fun n => tdF T rem (updH h k n) (k + 1)) hi
theorem tdN_part {T : Tide} {rem : Nat} {h : Hts} {k i k0 : Nat} {A : List Hts} (hA : PartOf A (tdF T (rem + 1) h k) k0) (hi : i < (spR T k).length) : PartOf A (tdF T rem (updH h k (gt (spR T k) i)) (k + 1)) (k0 + tdN T rem h k i) := by
  rw [tdF_succ] at hA
  exact hA.step hi
theorem tdN_all (T : Tide) (rem : Nat) (h : Hts) (k : Nat) : tdN T rem h k (spR T k).length = (tdF T (rem + 1) h k).length := by
  unfold tdN
  rw [tdF_succ, List.take_length]
theorem tdF_all (T : Tide) : tdF T T.marks.length zeroH 0 = tdL T := rfl
theorem htB_upd {h : Hts} (hh : HtB h) (k : Nat) {n : Int} (hn : 0 ≤ n ∧ n ≤ 60) : HtB (updH h k n) := fun j => by
  unfold updH; split
  · exact hn
  exact hh j
theorem htB_zero : HtB zeroH := fun _ => by simp [zeroH]
def truTo (T : Tide) (h : Hts) (k : Nat) : Bool := (List.range k).all fun p => !(setL T h p).isEmpty
theorem sumU_nil {l : List Int} : sumU l = 0 ↔ l = [] := by
  unfold sumU
  cases l with
  | nil => simp
  | cons a r =>
    have := Nat.two_pow_pos a.toNat
    simp only [List.map_cons, List.sum_cons, reduceCtorEq, iff_false]
    omega
theorem truTo_succ {T : Tide} {h : Hts} {k : Nat} : truTo T h (k + 1) = (truTo T h k && !decide (setU T h k = 0)) := by
  unfold truTo setU
  rw [List.range_succ, List.all_append]
  simp only [List.all_cons, List.all_nil, Bool.and_true]
  congr 1
  cases hl : setL T h k with
  | nil => rfl
  | cons a r =>
    have : ¬ sumU (a :: r) = 0 := fun e => by have := sumU_nil.1 e; cases this
    simp [this]
def tdP (T : Tide) (h : Hts) (j : Nat) : List Value := htC h ++ (List.range 4).map fun p => if p < j then ut (setU T h p) else ut 0
theorem spl_td (T : Tide) (h : Hts) {j : Nat} (hj : j < 4) : splice (tdP T h j) (0 + 4 + j * 1) [ut (setU T h j)] = tdP T h (j + 1) := by
  rcases (show j = 0 ∨ j = 1 ∨ j = 2 ∨ j = 3 by omega) with rfl | rfl | rfl | rfl <;> simp [tdP, htC, splice, List.range, List.range.loop]
theorem td_rd (T : Tide) (h : Hts) {j : Nat} (hj : j < 4) : (tdP T h (j + 1))[0 + 4 + j * 1]? = some (ut (setU T h j)) := by
  rcases (show j = 0 ∨ j = 1 ∨ j = 2 ∨ j = 3 by omega) with rfl | rfl | rfl | rfl <;> simp [tdP, htC, List.range, List.range.loop]
theorem inv_flip {D : Imm} {a b : Nat × Obj} {h0 hM : Hp} {S : List Nat} {w0 w : World} (h : Inv D ((a :: b :: h0) ++ hM) S w0 w) : Inv D (hM ++ h0) S w0 w := by
  have hp : ((a :: b :: h0) ++ hM).Perm (a :: b :: (hM ++ h0)) := (List.perm_append_comm.cons b).cons a
  refine h.sub (fun e he => hp.mem_iff.2 (List.mem_cons_of_mem _ (List.mem_cons_of_mem _ he))) ?_
  have hn := ((hp.map Prod.fst).nodup_iff).1 h.nodup
  rw [List.map_cons, List.map_cons] at hn
  exact (List.nodup_cons.1 (List.nodup_cons.1 hn).2).2
end Go.Proofs.YtejgofaeafphjaaGreatDoor
namespace Go.Proofs.YtejgofaeafphjaaGreatDoor
open Go.W Go.Ti
theorem SA236 : StructAt Tryz.prog 236 [.int .i64 0, .int .i64 0, .int .i64 0, .int .i64 0, .int .u64 0, .int .u64 0, .int .u64 0, .int .u64 0] [(0, 4), (4, 4)] := ⟨⟨_, Tryz.zeroValue236, rfl⟩, _, Tryz.underlying236, fun w => by simp [Tryz.sizeOf232, Tryz.sizeOf234]⟩
@[reducible, instance] def ISA236 := SaF.mk SA236
theorem onD_0 (T : Tide) (a1 a2 a3 : Option Addr) (n1 n2 n3 c1 c2 c3 : Nat) (qb mb bs bo bm by_ ly : Nat) (St : Nat → Imm → Hp → Prop) (Sp : Imm → Hp → Prop) (w0 : World) (A : List Hts) (hT : TideOk T)
    (hSm : ∀ k D1 D2 h, DExt w0 D1 D2 → St k D1 h → St k D2 h)
    (DD : Imm) (hround : ∀ k D' h w', k < A.length → w0.heap.size ≤ w'.heap.size → DExt w0 DD D' → St k D' h → Inv D' h (keys h) w' w' → YieldAt Fence.wide 0 Tryz.prog ly #[tdV T (gt A k)] w' (RoundN w' D' (keys h) (fun b D'' h' => (b = true ∧ St (k + 1) D'' h') ∨ (b = false ∧ Sp D'' h')))) : ∀ (h : Hts) (k k0 : Nat) (D : Imm) (w : World) (hM h0 : Hp), k + 0 = T.marks.length → PartOf A (tdF T 0 h k) k0 → HtB h → w0.heap.size ≤ w.heap.size → DExt w0 DD D → TideR D T a1 n1 a2 n2 a3 n3 → D qb = some (shoO (.slice a1 n1 c1) (.slice a2 n2 c2) (.slice a3 n3 c3) mb) → DoneD D → D bs = some (.cells (List.toArray [pt qb]) 134 (0, 0)) → D bo = some (.cells (List.toArray [.func (.func 236) #[] #[pt bs, pt bo, pt bm, pt by_]]) 312 (0, 0)) → D bm = some (.cells (List.toArray [ut (2 ^ T.looks.length - 1)]) 200 (0, 0)) → D by_ = some (.cells (List.toArray [.func (.yield ly) #[] #[]]) 311 (0, 0)) → MapK T mb hM → St k0 D h0 → Inv D (hM ++ h0) (keys (hM ++ h0)) w w → AltersN Tryz.prog 236 [htV h, nt k, pt bs, pt bo, pt bm, pt by_] w D (keys (hM ++ h0)) (fun v D' h' => ∃ b hM' h1, v = .bool b ∧ h' = hM' ++ h1 ∧ MapK T mb hM' ∧ ((b = true ∧ St (k0 + (tdF T 0 h k).length) D' h1) ∨ (b = false ∧ Sp D' h1))) := by
  intro h k k0 D w hM h0 hin hpart hh hsw hXX hR hq hdn h1 h2 h3 h4 hMM hS0 hI0
  obtain rfl := hR.mark.len'
  obtain rfl := hR.sand.len'
  obtain rfl := hR.look.len'
  obtain ⟨hl1, hl2, hl3⟩ := hR.len
  obtain ⟨es0, clock0, F0, rfl, hMR0, hFK0⟩ := hMM
  have hnm := hT.nm
  have hns := hT.ns
  unfold AltersN
  refine en Tryz.func236 rfl Tryz.ntmps236 hI0 (g [[1],[1,0,1,2,3,4,5]] ?_)
  refine WL.so (SO.box rfl rfl) rfl (zw fun b6 hb6 => ?_)
  refine g [[5],[11,8,6,1,2,3,4,5]] ?_
  refine WC.cond rfl (fun c20 => ?_) (fun c20 => ?_)
  · try simp only [zq] at c20
    omega
  try simp only [zq] at c20
  refine g [[3],[3,8,6,2,4,5]] ?_
  refine WL.so (SO.alloc ZvF.h rfl) rfl (zw fun b11 hb11 => ?_)
  refine g [[5],[11,11,8,6,2,4,5]] ?_
  refine WC.loop (fun y : Nat × Hp => [(2, pt bs), (4, pt bm), (5, pt by_), (6, pt b6), (11, pt b11), (63, nt T.sand.length), (64, nt y.1)]) (fun y => ((b11, .cells (List.toArray (tdP T h y.1)) 236 (0, 0)) :: (b6, .cells (List.toArray (htC h)) 232 (0, 0)) :: h0) ++ y.2) (fun _ => D) (fun y => y.1 ≤ T.sand.length ∧ MapK T mb y.2 ∧ truTo T h y.1 = true) (fun y => T.sand.length - y.1) (0, [(mb, .map es0 clock0)]) ⟨by omega, ⟨es0, clock0, F0, rfl, hMR0, hFK0⟩, rfl⟩ (fun a w h => at_less h ⟨rfl, rfl, rfl, rfl, rfl, rfl, rfl, trivial⟩ (fun e he => by
    rcases List.mem_append.1 he with he | he
    · rcases List.mem_cons.1 he with rfl | he
      · exact List.mem_cons_self
      rcases List.mem_cons.1 he with rfl | he
      · exact List.mem_cons_of_mem _ List.mem_cons_self
      exact List.mem_cons_of_mem _ (List.mem_cons_of_mem _ (List.mem_cons_of_mem _ he))
    · obtain rfl := List.mem_singleton.1 he
      exact List.mem_cons_of_mem _ (List.mem_cons_of_mem _ List.mem_cons_self)) (fun hn => by
    simp only [keys, List.map_append, List.map_cons, List.map_nil, List.cons_append, List.nil_append] at hn ⊢
    exact ((((List.perm_append_singleton mb (h0.map Prod.fst)).cons b6).cons b11).nodup_iff).2 hn)) ?_
  rintro ⟨j, hM⟩ ⟨hj, hMM, htr⟩
  dsimp only at hj hMM htr
  obtain ⟨es, clock, F, rfl, hMR, hFK⟩ := hMM
  refine g [[1],[5,2,4,5,6,11,63,64]] ?_
  refine WC.cond rfl (fun c65 => ?_) (fun c65 => ?_)
  · try simp only [zq] at c65
    have hjs : j < T.sand.length := by omega
    refine g [[5],[6,2,4,5,6,11,63,64],[6,12,2,4,5,6,11,63,64]] ?_
    refine WL.so (SO.altersN (own := ((b11, .cells (List.toArray (tdP T h j)) 236 (0, 0)) :: (b6, .cells (List.toArray (htC h)) 232 (0, 0)) :: h0)) (hpc := [(mb, .map es clock)]) (S1 := [mb]) (fun _ h => h) (fun h => h) (fun _ h => h) (fun _ h => h) (Enters.func CaF.h rfl) (fun w1 hI => sand_g T a1 a2 a3 _ _ _ c1 c2 c3 D w1 hR qb mb hq hI.imm hT hdn h hh j hjs _ ⟨es, clock, F, rfl, hMR, hFK⟩ hI)) rfl ?_
    rintro _ _ _ ⟨hM2, _, ⟨rfl, rfl, hMM2⟩, rfl⟩
    refine g [[1]] ?_
    refine WL.yd (Yd.indexA UnF.h SzF.h rfl rfl (by omega) (by omega)) rfl ?_
    refine WL.so (SO.store 0 rfl SzF.h rfl rfl rfl rfl (by show 0 + 4 + j * 1 + 1 ≤ 8; omega) (oneB_spec rfl)) rfl (zt (g [[3],[1,12,2,4,5,6,11,63,64]] ?_))
    rw [show splice (tdP T h j) (0 + 4 + (j : Int).toNat * 1) [ut (setU T h j)] = tdP T h (j + 1) from spl_td T h (by omega)]
    refine g [[2]] ?_
    refine WL.yd (Yd.indexA UnF.h SzF.h rfl rfl (by omega) (by omega)) rfl (WL.yd (Yd.l1 rfl (Rd.own (k := 0) rfl (td_rd T h (j := j) (by omega)))) rfl (g [[3]] ?_))
    refine WC.cond rfl (fun c79 => ?_) (fun c79 => ?_)
    · try simp only [zq] at c79
      refine g [[1],[10,2,4,5,6,11,63,64]] ?_
      refine WP.ret1 rfl rfl rfl (RV.tmp rfl) (fun w1 hI => ⟨_, _, hM2 ++ h0, rfl, DExt.refl _ _, inv_flip hI, true, hM2, h0, rfl, rfl, hMM2, .inl ⟨rfl, by
        have hno : truB T h = false := by
          cases hb : truB T h with
          | false => rfl
          | true =>
            have h9 := List.all_eq_true.1 hb j (List.mem_range.2 hjs)
            have h8 : setL T h j = [] := sumU_nil.1 (by show setU T h j = 0; omega)
            rw [h8] at h9; cases h9
        rw [tdF_zero, hno]; exact hS0⟩⟩)
    try simp only [zq] at c79
    refine g [[3],[4,2,4,5,6,11,63,64]] ?_
    exact WP.again (⟨j + 1, hM2⟩ : Nat × Hp) ⟨by simp only; omega, hMM2, by simp only; rw [truTo_succ, htr, decide_eq_false (by omega)]; rfl⟩ (by simp only; omega) (fun a w h => at_fr h ⟨rfl, rfl, rfl, rfl, rfl, rfl, rfl, trivial⟩)
  try simp only [zq] at c65
  obtain rfl : j = T.sand.length := by omega
  refine g [[6]] ?_
  have htB : truB T h = true := htr
  have hA1 : tdF T 0 h k = [h] := by rw [tdF_zero, if_pos htB]
  have hkA := hpart.at 0 (by rw [hA1]; exact Nat.zero_lt_one)
  have hgA : gt A k0 = h := by have := hkA.1; rw [hA1] at this; exact this
  refine g [[0,5,11]] ?_
  refine WC.ofF (g [[3]] ?_)
  refine WLF.know 82 (tdV T h) rfl rfl ?_
  refine WLF.yieldN (l := ly) (vals := [tdV T h]) [(b11, .cells (List.toArray (tdP T h T.sand.length)) 236 (0, 0)), (b6, .cells (List.toArray (htC h)) 232 (0, 0)), (mb, .map es clock)] h0 (fun e he => by simp only [List.cons_append, List.nil_append, List.mem_cons, List.mem_append, List.not_mem_nil, or_false] at he ⊢; rcases he with h | h | h | h <;> simp [h]) (fun hn => by simp only [keys, List.map_append, List.map_cons, List.map_nil, List.cons_append, List.nil_append] at hn ⊢; exact ((((List.perm_append_singleton mb (h0.map Prod.fst)).cons b6).cons b11).nodup_iff).1 hn) rfl rfl rfl (fun w' hsz hI => by rw [← hgA]; exact hround k0 D h0 w' hkA.2 (Nat.le_trans hsw hsz) hXX hS0 hI) ?_
  rintro b22 D5 hp5 hK5 hX5
  refine g [[4]] ?_
  refine WP.ret1 rfl rfl rfl (RV.tmp rfl) (fun w1 hI => by
    rcases hK5 with ⟨rfl, hK5⟩ | ⟨rfl, hK5⟩
    · exact ⟨_, D5, [(mb, .map es clock)] ++ hp5, rfl, hX5, hI.drop 2, true, _, hp5, rfl, rfl, ⟨es, clock, F, rfl, hMR, hFK⟩, .inl ⟨rfl, by rw [hA1]; exact hK5⟩⟩
    exact ⟨_, D5, [(mb, .map es clock)] ++ hp5, rfl, hX5, hI.drop 2, false, _, hp5, rfl, rfl, ⟨es, clock, F, rfl, hMR, hFK⟩, .inr ⟨rfl, hK5⟩⟩)
end Go.Proofs.YtejgofaeafphjaaGreatDoor
namespace Go.Proofs.YtejgofaeafphjaaGreatDoor
open Go.W Go.Ti
theorem onD_s (T : Tide) (a1 a2 a3 : Option Addr) (n1 n2 n3 c1 c2 c3 : Nat) (qb mb bs bo bm by_ ly : Nat) (St : Nat → Imm → Hp → Prop) (Sp : Imm → Hp → Prop) (w0 : World) (A : List Hts) (hT : TideOk T)
    (hSm : ∀ k D1 D2 h, DExt w0 D1 D2 → St k D1 h → St k D2 h)
    (DD : Imm) (hround : ∀ k D' h w', k < A.length → w0.heap.size ≤ w'.heap.size → DExt w0 DD D' → St k D' h → Inv D' h (keys h) w' w' → YieldAt Fence.wide 0 Tryz.prog ly #[tdV T (gt A k)] w' (RoundN w' D' (keys h) (fun b D'' h' => (b = true ∧ St (k + 1) D'' h') ∨ (b = false ∧ Sp D'' h')))) (rem : Nat) (ih : ∀ (h : Hts) (k k0 : Nat) (D : Imm) (w : World) (hM h0 : Hp), k + rem = T.marks.length → PartOf A (tdF T rem h k) k0 → HtB h → w0.heap.size ≤ w.heap.size → DExt w0 DD D → TideR D T a1 n1 a2 n2 a3 n3 → D qb = some (shoO (.slice a1 n1 c1) (.slice a2 n2 c2) (.slice a3 n3 c3) mb) → DoneD D → D bs = some (.cells (List.toArray [pt qb]) 134 (0, 0)) → D bo = some (.cells (List.toArray [.func (.func 236) #[] #[pt bs, pt bo, pt bm, pt by_]]) 312 (0, 0)) → D bm = some (.cells (List.toArray [ut (2 ^ T.looks.length - 1)]) 200 (0, 0)) → D by_ = some (.cells (List.toArray [.func (.yield ly) #[] #[]]) 311 (0, 0)) → MapK T mb hM → St k0 D h0 → Inv D (hM ++ h0) (keys (hM ++ h0)) w w → AltersN Tryz.prog 236 [htV h, nt k, pt bs, pt bo, pt bm, pt by_] w D (keys (hM ++ h0)) (fun v D' h' => ∃ b hM' h1, v = .bool b ∧ h' = hM' ++ h1 ∧ MapK T mb hM' ∧ ((b = true ∧ St (k0 + (tdF T rem h k).length) D' h1) ∨ (b = false ∧ Sp D' h1)))) : ∀ (h : Hts) (k k0 : Nat) (D : Imm) (w : World) (hM h0 : Hp), k + (rem + 1) = T.marks.length → PartOf A (tdF T (rem + 1) h k) k0 → HtB h → w0.heap.size ≤ w.heap.size → DExt w0 DD D → TideR D T a1 n1 a2 n2 a3 n3 → D qb = some (shoO (.slice a1 n1 c1) (.slice a2 n2 c2) (.slice a3 n3 c3) mb) → DoneD D → D bs = some (.cells (List.toArray [pt qb]) 134 (0, 0)) → D bo = some (.cells (List.toArray [.func (.func 236) #[] #[pt bs, pt bo, pt bm, pt by_]]) 312 (0, 0)) → D bm = some (.cells (List.toArray [ut (2 ^ T.looks.length - 1)]) 200 (0, 0)) → D by_ = some (.cells (List.toArray [.func (.yield ly) #[] #[]]) 311 (0, 0)) → MapK T mb hM → St k0 D h0 → Inv D (hM ++ h0) (keys (hM ++ h0)) w w → AltersN Tryz.prog 236 [htV h, nt k, pt bs, pt bo, pt bm, pt by_] w D (keys (hM ++ h0)) (fun v D' h' => ∃ b hM' h1, v = .bool b ∧ h' = hM' ++ h1 ∧ MapK T mb hM' ∧ ((b = true ∧ St (k0 + (tdF T (rem + 1) h k).length) D' h1) ∨ (b = false ∧ Sp D' h1))) := by
  intro h k k0 D w hM h0 hin hpart hh hsw hXX hR hq hdn h1 h2 h3 h4 hMM hS0 hI0
  obtain rfl := hR.mark.len'
  obtain rfl := hR.sand.len'
  obtain rfl := hR.look.len'
  obtain ⟨hl1, hl2, hl3⟩ := hR.len
  have hnm := hT.nm
  have hkm : k < T.marks.length := by omega
  have hk4 : k < 4 := by omega
  have hsp := narrow_iff.1 (hT.mark k hkm).2
  unfold AltersN
  refine en Tryz.func236 rfl Tryz.ntmps236 hI0 (g [[1],[1,0,1,2,3,4,5]] ?_)
  refine WL.so (SO.box rfl rfl) rfl (zw fun b6 hb6 => ?_)
  refine g [[5],[11,8,6,1,2,3,4,5]] ?_
  refine WC.cond rfl (fun c20 => ?_) (fun c20 => ?_)
  · try simp only [zq] at c20
    refine g [[1],[8,8,6,1,2,3,4,5],[7,9,8,6,1,2,3,4,5]] ?_
    refine WL.yd (Yd.ix rfl rfl (hR.mark.addr k (by omega))) rfl (g [[2]] ?_)
    refine WL.yd (Yd.l1 rfl ((hR.mark.at k (by omega)).rd 1 rfl)) rfl (g [[4]] ?_)
    refine WC.loop (fun y : Nat × Imm × Hp × Hp => [(1, nt k), (2, pt bs), (3, pt bo), (6, pt b6), (9, .func (.func 237) #[htV h] #[]), (10, it ((gt T.marks k).high.lo + ((y.1 : Nat) : Int)))]) (fun y => (b6, .cells (List.toArray (htC h)) 232 (0, 0)) :: (y.2.2.1 ++ y.2.2.2)) (fun y => y.2.1) (fun y => y.1 ≤ ((gt T.marks k).high.hi - (gt T.marks k).high.lo + 1).toNat ∧ DExt w D y.2.1 ∧ MapK T mb y.2.2.1 ∧ St (k0 + tdN T rem h k y.1) y.2.1 y.2.2.2) (fun y => ((gt T.marks k).high.hi - (gt T.marks k).high.lo + 1).toNat - y.1) ⟨0, D, hM, h0⟩ ⟨by omega, DExt.refl _ _, hMM, hS0⟩ (fun a w h => at_fr h ⟨rfl, rfl, rfl, rfl, rfl, by show some (it _) = some (it _); congr 2; push_cast; omega, trivial⟩) ?_
    rintro ⟨i, D1, hM1, hG⟩ ⟨hi, hX1, hMM1, hSG⟩
    dsimp only at hi hX1 hMM1 hSG
    replace hXX := hXX.trans (hX1) hsw
    replace hR := hR.ext (hX1)
    replace hq := (hX1).old _ _ hq
    replace hdn := hdn.ext (hX1)
    replace h1 := (hX1).old _ _ h1
    replace h2 := (hX1).old _ _ h2
    replace h3 := (hX1).old _ _ h3
    replace h4 := (hX1).old _ _ h4
    refine g [[2],[8,1,2,3,6,9,10]] ?_
    refine WL.yd (Yd.ix rfl rfl (hR.mark.addr k (by omega))) rfl (g [[2]] ?_)
    refine WL.yd (Yd.l1 rfl ((hR.mark.at k (by omega)).rd 2 rfl)) rfl (g [[3]] ?_)
    refine WC.cond rfl (fun c44 => ?_) (fun c44 => ?_)
    · try simp only [zq] at c44
      have hiW : i < ((gt T.marks k).high.hi - (gt T.marks k).high.lo + 1).toNat := by omega
      have hil : i < (spR T k).length := by unfold spR; rw [rng_len]; exact hiW
      have hgi : gt (spR T k) i = ((gt T.marks k).high.lo + ((i : Nat) : Int)) := gt_rng hiW
      have hpt := tdN_part hpart hil
      rw [hgi] at hpt
      refine g [[5],[0,1,2,3,6,9,10]] ?_
      refine WC.drawO [_] (pz [1,3,5,7,11,13,8,14,17]) zk zk zX (fun _ hI => Inv.left (l1 := [_]) (l2 := hM1 ++ hG) hI) (g [[5]] ?_)
      refine WA.yd rfl (Yd.addN (i := k) (j := 1) rfl rfl (by omega)) rfl (WA.so rfl (SO.call (Enters.val CaF.h rfl rfl) (fun w hI => withH_g h k ((gt T.marks k).high.lo + ((i : Nat) : Int)) hk4 _)) rfl ?_)
      rintro _ _ _ ⟨rfl, rfl, rfl⟩
      refine ⟨fun _ hI => Inv.left (l1 := [_]) (l2 := hM1 ++ hG) hI, ?_⟩
      refine WA.so rfl (SO.altersNS (own := [_]) (hpc := hM1 ++ hG) (fun _ h => h) (fun h => h) (Enters.val CaF.h rfl rfl) (fun w3 hsz3 hI => ih (updH h k ((gt T.marks k).high.lo + ((i : Nat) : Int))) (k + 1) (k0 + tdN T rem h k i) D1 w3 hM1 hG (by omega) hpt (htB_upd hh k (by omega)) (Nat.le_trans hsw hsz3) hXX hR hq hdn h1 h2 h3 h4 hMM1 hSG hI)) rfl ?_
      rintro _ D8 _ ⟨hp8, hX8, ⟨b84, hM2, h9, rfl, rfl, hMM2, hK8⟩, rfl⟩
      refine ⟨fun _ hI => inv_weak (Inv.left (l1 := [_]) hI) hX8, ?_⟩
      refine g [[3]] ?_
      refine WC.cond rfl (fun c55 => ?_) (fun c55 => ?_)
      · try simp only [zq] at c55
        refine g [[1],[11,1,2,3,6,9,10]] ?_
        refine WP.ret1 rfl rfl rfl (RV.tmp rfl) (fun w1 hI => by
          rcases hK8 with ⟨htt, _⟩ | ⟨_, hK8⟩
          · simp_all
          exact ⟨_, D8, hM2 ++ h9, rfl, hX1.trans hX8 (Nat.le_refl _), hI.drop 1, false, hM2, h9, rfl, rfl, hMM2, .inr ⟨rfl, hK8⟩⟩)
      try simp only [zq] at c55
      refine g [[3],[5,1,2,3,6,9,10]] ?_
      rcases hK8 with ⟨_, hK8⟩ | ⟨hff, _⟩
      · exact WP.again (⟨i + 1, D8, hM2, h9⟩ : Nat × Imm × Hp × Hp) ⟨by simp only; omega, hX1.trans hX8 (Nat.le_refl _), hMM2, by simp only; rw [tdN_succ hil, hgi, ← Nat.add_assoc]; exact hK8⟩ (by simp only; omega) (fun a w h => at_fr h ⟨rfl, rfl, rfl, rfl, rfl, by show some (it _) = some (it _); congr 2; push_cast; omega, trivial⟩)
      simp_all
    try simp only [zq] at c44
    obtain rfl : i = ((gt T.marks k).high.hi - (gt T.marks k).high.lo + 1).toNat := by omega
    refine g [[6],[6,2,6]] ?_
    refine WP.ret1 rfl rfl rfl (RV.tmp rfl) (fun w1 hI => ⟨_, D1, hM1 ++ hG, rfl, hX1, hI.drop 1, true, hM1, hG, rfl, rfl, hMM1, .inl ⟨rfl, by rw [← tdN_all]; unfold spR; rw [rng_len]; exact hSG⟩⟩)
  try simp only [zq] at c20
  omega
theorem onD_g (T : Tide) (a1 a2 a3 : Option Addr) (n1 n2 n3 c1 c2 c3 : Nat) (qb mb bs bo bm by_ ly : Nat) (St : Nat → Imm → Hp → Prop) (Sp : Imm → Hp → Prop) (w0 : World) (A : List Hts) (hT : TideOk T)
    (hSm : ∀ k D1 D2 h, DExt w0 D1 D2 → St k D1 h → St k D2 h)
    (DD : Imm) (hround : ∀ k D' h w', k < A.length → w0.heap.size ≤ w'.heap.size → DExt w0 DD D' → St k D' h → Inv D' h (keys h) w' w' → YieldAt Fence.wide 0 Tryz.prog ly #[tdV T (gt A k)] w' (RoundN w' D' (keys h) (fun b D'' h' => (b = true ∧ St (k + 1) D'' h') ∨ (b = false ∧ Sp D'' h')))) : ∀ rem, ∀ (h : Hts) (k k0 : Nat) (D : Imm) (w : World) (hM h0 : Hp), k + rem = T.marks.length → PartOf A (tdF T rem h k) k0 → HtB h → w0.heap.size ≤ w.heap.size → DExt w0 DD D → TideR D T a1 n1 a2 n2 a3 n3 → D qb = some (shoO (.slice a1 n1 c1) (.slice a2 n2 c2) (.slice a3 n3 c3) mb) → DoneD D → D bs = some (.cells (List.toArray [pt qb]) 134 (0, 0)) → D bo = some (.cells (List.toArray [.func (.func 236) #[] #[pt bs, pt bo, pt bm, pt by_]]) 312 (0, 0)) → D bm = some (.cells (List.toArray [ut (2 ^ T.looks.length - 1)]) 200 (0, 0)) → D by_ = some (.cells (List.toArray [.func (.yield ly) #[] #[]]) 311 (0, 0)) → MapK T mb hM → St k0 D h0 → Inv D (hM ++ h0) (keys (hM ++ h0)) w w → AltersN Tryz.prog 236 [htV h, nt k, pt bs, pt bo, pt bm, pt by_] w D (keys (hM ++ h0)) (fun v D' h' => ∃ b hM' h1, v = .bool b ∧ h' = hM' ++ h1 ∧ MapK T mb hM' ∧ ((b = true ∧ St (k0 + (tdF T rem h k).length) D' h1) ∨ (b = false ∧ Sp D' h1))) := by
  intro rem
  induction rem with
  | zero => exact onD_0 T a1 a2 a3 n1 n2 n3 c1 c2 c3 qb mb bs bo bm by_ ly St Sp w0 A hT hSm DD hround
  | succ rem ih => exact onD_s T a1 a2 a3 n1 n2 n3 c1 c2 c3 qb mb bs bo bm by_ ly St Sp w0 A hT hSm DD hround rem ih
end Go.Proofs.YtejgofaeafphjaaGreatDoor
namespace Go.Proofs.YtejgofaeafphjaaGreatDoor
open Go.W Go.Ti
theorem truthsD1_iter (T : Tide) (a1 a2 a3 : Option Addr) (n1 n2 n3 c1 c2 c3 : Nat) (qb mb bs bm : Nat) (D : Imm) (w : World) (hT : TideOk T) (hR : TideR D T a1 n1 a2 n2 a3 n3) (hq : D qb = some (shoO (.slice a1 n1 c1) (.slice a2 n2 c2) (.slice a3 n3 c3) mb)) (hdn : DoneD D) (h1 : D bs = some (.cells (List.toArray [pt qb]) 134 (0, 0))) (hm : D bm = some (.cells (List.toArray [ut (2 ^ T.looks.length - 1)]) 200 (0, 0))) : IterT Tryz.prog 235 [pt bs, pt bm] (tdL T).length (fun k => tdV T (gt (tdL T) k)) D (MapK T mb) w := by
  unfold IterT
  intro l St Sp hSm hround hM h0 hMM hS0 hI0
  unfold AltersN
  refine en Tryz.func235 rfl Tryz.ntmps235 hI0 (g [[1],[1,0,1,2]] ?_)
  refine WL.so (SO.box rfl rfl) rfl (zw fun b3 hb3 => ?_)
  refine g [[3],[1,3,1,2]] ?_
  refine WL.so (SO.alloc ZvF.h rfl) rfl (zw fun b4 hb4 => ?_)
  refine g [[3],[5,4,3,1,2]] ?_
  refine WC.freezeK 0 rfl (fun hn4 => ?_)
  refine WC.freezeK 0 rfl (fun hn3 => ?_)
  have hX3 : DExt w D ((D.add b4 (.cells (List.toArray [.func (.func 236) #[] #[pt bs, pt b4, pt bm, pt b3]]) 312 (0, 0))).add b3 (.cells (List.toArray [.func (.yield l) #[] #[]]) 311 (0, 0))) := ((DExt.refl w D).add hn4 hb4).add hn3 hb3
  have h3 : ((D.add b4 (.cells (List.toArray [.func (.func 236) #[] #[pt bs, pt b4, pt bm, pt b3]]) 312 (0, 0))).add b3 (.cells (List.toArray [.func (.yield l) #[] #[]]) 311 (0, 0))) b3 = some (.cells (List.toArray [.func (.yield l) #[] #[]]) 311 (0, 0)) := Imm.add_self _ _ _
  have h4 : ((D.add b4 (.cells (List.toArray [.func (.func 236) #[] #[pt bs, pt b4, pt bm, pt b3]]) 312 (0, 0))).add b3 (.cells (List.toArray [.func (.yield l) #[] #[]]) 311 (0, 0))) b4 = some (.cells (List.toArray [.func (.func 236) #[] #[pt bs, pt b4, pt bm, pt b3]]) 312 (0, 0)) := ((DExt.refl w _).add hn3 hb3).old _ _ (Imm.add_self _ _ _)
  replace h1 := hX3.old _ _ h1
  replace hm := hX3.old _ _ hm
  replace hq := hX3.old _ _ hq
  replace hR := hR.ext hX3
  replace hdn := hdn.ext hX3
  refine (?_ : WC Tryz.prog _ _ ((D.add b4 (.cells (List.toArray [.func (.func 236) #[] #[pt bs, pt b4, pt bm, pt b3]]) 312 (0, 0))).add b3 (.cells (List.toArray [.func (.yield l) #[] #[]]) 311 (0, 0))) (hM ++ h0) _ _)
  generalize ((D.add b4 (.cells (List.toArray [.func (.func 236) #[] #[pt bs, pt b4, pt bm, pt b3]]) 312 (0, 0))).add b3 (.cells (List.toArray [.func (.yield l) #[] #[]]) 311 (0, 0))) = D3 at hX3 h1 h3 h4 hm hq hR hdn ⊢
  refine g [[2,4]] ?_
  refine WL.yd (Yd.buildA (zs := [.int .i64 0, .int .i64 0, .int .i64 0, .int .i64 0]) ⟨_, ZvF.h, rfl⟩ UnF.h SzF.h rfl (cs := [_, _, _, _]) rfl) rfl (WL.know 7 (htV zeroH) rfl rfl ?_)
  refine WL.so (SO.altersNS (own := []) (hpc := hM ++ h0) (fun _ h => h) (fun h => h) (Enters.val CaF.h rfl rfl) (fun w3 hsz hI => onD_g T a1 a2 a3 n1 n2 n3 c1 c2 c3 qb mb bs b4 bm b3 l St Sp w (tdL T) hT hSm D hround T.marks.length zeroH 0 0 D3 w3 hM h0 (by omega) ⟨[], [], by simp [tdF_all], rfl⟩ htB_zero hsz hX3 hR hq hdn h1 h4 hm h3 hMM (hSm _ _ _ _ hX3 hS0) hI)) rfl ?_
  rintro _ D8 hp8 ⟨_, hX8, ⟨b7, hM2, h9, rfl, rfl, hMM2, hK8⟩, rfl⟩
  refine g [[1]] ?_
  refine WP.ret0 rfl rfl rfl  (fun w1 hI => by
    rcases hK8 with ⟨rfl, hK8⟩ | ⟨rfl, hK8⟩
    · exact ⟨_, D8, hM2 ++ h9, rfl, hX3.trans hX8 (Nat.le_refl _), hI, hM2, h9, rfl, hMM2, .inl (by rw [Nat.zero_add] at hK8; exact hK8)⟩
    exact ⟨_, D8, hM2 ++ h9, rfl, hX3.trans hX8 (Nat.le_refl _), hI, hM2, h9, rfl, hMM2, .inr hK8⟩)
end Go.Proofs.YtejgofaeafphjaaGreatDoor
namespace Go.Proofs.YtejgofaeafphjaaGreatDoor
open Go.W Go.Ti
theorem flat_le {α β : Type} (f : α → List β) (n : Nat) : ∀ l : List α, (∀ x ∈ l, (f x).length ≤ n) → (l.flatMap f).length ≤ l.length * n
  | [], _ => by simp
  | x :: l, h => by
    have h1 := h x List.mem_cons_self
    have h2 := flat_le f n l fun y hy => h y (List.mem_cons_of_mem _ hy)
    rw [List.flatMap_cons, List.length_append, List.length_cons, Nat.succ_mul]; omega
theorem hsL_len {T : Tide} (hT : TideOk T) : ∀ (r : Nat) (h : Hts) (k : Nat), k + r ≤ T.marks.length → (hsL T r h k).length ≤ 3 ^ r
  | 0, _, _, _ => by simp [hsL]
  | r + 1, h, k, hk => by
    have hw := narrow_iff.1 (hT.mark k (by omega)).2
    have h1 := flat_le (fun n => hsL T r (updH h k n) (k + 1)) (3 ^ r) (rng (gt T.marks k).high.lo (gt T.marks k).high.hi) fun n _ => hsL_len hT r _ _ (by omega)
    rw [rng_len] at h1
    show ((rng (gt T.marks k).high.lo (gt T.marks k).high.hi).flatMap fun n => hsL T r (updH h k n) (k + 1)).length ≤ _
    refine Nat.le_trans h1 ?_
    rw [Nat.pow_succ, Nat.mul_comm]
    exact Nat.mul_le_mul_left _ (by omega)
theorem tdL_len {T : Tide} (hT : TideOk T) : (tdL T).length ≤ 81 := by
  have h1 : (tdL T).length ≤ (hsL T T.marks.length zeroH 0).length := List.length_filter_le _ _
  have h2 := hsL_len hT T.marks.length zeroH 0 (by omega)
  have h3 : 3 ^ T.marks.length ≤ 3 ^ 4 := Nat.pow_le_pow_right (by decide) hT.nm.2
  omega
theorem tdC_one (T : Tide) (h : Hts) : ∀ v ∈ tdC T h, v.oneCell' = true := fun v hv => by
  unfold tdC at hv
  rcases List.mem_append.1 hv with hv | hv
  · simp only [htC, List.mem_cons, List.not_mem_nil, or_false] at hv
    rcases hv with rfl | rfl | rfl | rfl <;> rfl
  obtain ⟨p, _, rfl⟩ := List.mem_map.1 hv
  split <;> rfl
theorem len8v {l : List Value} (h : l.length = 8) : ∃ a b c d e f x y, l = [a, b, c, d, e, f, x, y] := by
  match l, h with
  | [a, b, c, d, e, f, x, y], _ => exact ⟨a, b, c, d, e, f, x, y, rfl⟩
theorem appT_g (T : Tide) (hT : TideOk T) (mb : Nat) (gf : Nat) (lb : List Value) (D : Imm) (w : World) (hit : ∀ w1, w.heap.size ≤ w1.heap.size → Holds D w1 → IterT Tryz.prog gf lb (tdL T).length (fun k => tdV T (gt (tdL T) k)) D (MapK T mb) w1) (hc : ∀ args w, (callFunc gf args).run Tryz.prog w = .ok (.enter gf args) w) (hM : Hp) (hMM : MapK T mb hM) (hI0 : Inv D hM [mb] w w) : AltersN Tryz.prog 234 [.slice none 0 0, .func (.func gf) #[] lb.toArray] w D [mb] (fun v D' hp' => ∃ a c, v = .slice a (tdL T).length c ∧ SlL D' 8 ((tdL T).map (tdC T)) a (tdL T).length ∧ MapK T mb hp') := by
  unfold AltersN
  have h81 := tdL_len hT
  obtain ⟨es, clock, F, rfl, hMR, hFK⟩ := hMM
  refine enM Tryz.func234 rfl Tryz.ntmps234 hI0 (g [[1],[1,0,1]] ?_)
  refine WL.so (SO.box rfl rfl) rfl (zw fun b2 hb2 => ?_)
  refine g [[5],[5,4,2,1],[0,2,6]] ?_
  refine WC.hpPerm ([(mb, .map es clock)] ++ [(b2, .cells (List.toArray [.slice none 0 0]) 139 (0, 0))]) (List.Perm.swap _ _ _) ?_
  refine WC.rangeIterT [(mb, .map es clock)] _ rfl ⟨es, clock, F, rfl, hMR, hFK⟩ (N := (tdL T).length) (arg := fun k => tdV T (gt (tdL T) k)) (fun w1 hs hD1 => hit w1 hs hD1) rfl hc rfl (fun k _ h => ∃ o, owP w o k 8 ∧ h = ((b2, .cells (List.toArray [owV o k]) 139 (0, 0)) : Nat × Obj) :: owH o 236 (((tdL T).take k).flatMap (tdC T)) []) (fun _ _ _ => False) (fun _ _ _ _ _ h => h) ⟨none, rfl, rfl⟩ ?_ ?_ ?_
  · rintro rec1 l1 Dn0 k D5 _ w1 hrec hk ⟨o, ho, rfl⟩ hX5 hsz
    unfold RoundGN
    obtain ⟨e0, e1, e2, e3, e4, e5, e6, e7, he⟩ := len8v (tdC_len T (gt (tdL T) k))
    have hone := tdC_one T (gt (tdL T) k)
    rw [he] at hone
    refine g [[1,7,2]] ?_
    refine WLF.know 7 (.agg (List.toArray [e0, e1, e2, e3, e4, e5, e6, e7])) rfl (by unfold tdV; rw [he]) ?_
    refine WLF.so (zn rfl) (SO.alloc ZvF.h rfl) rfl (zw fun b5 hb5 => ?_)
    refine WLF.so (zn rfl) (SO.store 0 rfl SzF.h rfl rfl rfl rfl (zqb rfl) hone) rfl (zt (g [[1]] ?_))
    refine WP.iterBegin 1 rfl hrec (g [[1],[3,5,2]] ?_)
    refine WLF.so (zn rfl) (SO.buildRows UnF.h SzF.h ZvF.h rfl rfl rfl (rows := [[e0, e1, e2, e3, e4, e5, e6, e7]]) rfl (by intro r hr; repeat first | (rcases List.mem_cons.1 hr with rfl | hr; rfl) | (cases hr)) rfl) rfl ?_
    rintro _ _ _ ⟨b10, hb10, rfl, rfl, rfl⟩
    refine WLF.so (by intro _ h; cases h) (SO.appendOwW (W := w) hsz (o := o) (len := k) (n := 1) (xs := (((tdL T).take k).flatMap (tdC T))) (size := 8) [_] [_, _, _, _] [] rfl rfl Tryz.underlying139 Tryz.sizeOf236 Tryz.typeInfo236 Tryz.zeroValue236 rfl rfl rfl rfl ⟨rfl, .inr ⟨_, _, _, rfl, RdN.own (k := 0) (n := 8) rfl rfl⟩⟩ hone ho (by rw [flat_len (tdC_len T), List.length_take, Nat.min_eq_left (by omega)]) (by omega) (by show (2 * (_ + _) + 1000) * 64 ≤ 2 ^ 48; omega) (by omega)) rfl ?_
    rintro _ _ _ ⟨u1, hu1, rfl, rfl, rfl⟩
    refine g [[3]] ?_
    refine WP.iterOnN hrec (h1 := (b2, .cells (List.toArray [owV (some u1) (k + 1)]) 139 (0, 0)) :: owH (some u1) 236 (((tdL T).take k).flatMap (tdC T) ++ [e0, e1, e2, e3, e4, e5, e6, e7]) []) (fun _ h => List.mem_cons_of_mem _ h) (fun h => (List.nodup_cons.1 h).2) (DExt.refl _ _) ⟨some u1, hu1, ?_⟩
    rw [take_gt hk, List.flatMap_append, List.flatMap_cons, List.flatMap_nil, List.append_nil, he]
  · rintro Dn1 D6 hM1 _ hDn1 hX6 hMM1 ⟨o, ho, rfl⟩
    obtain ⟨es1, clock1, F1, rfl, hMR1, hFK1⟩ := hMM1
    rw [List.take_length]
    refine g [[3],[2,2]] ?_
    refine WL.know 12 (.slice (owAt o) (tdL T).length (owCp o (tdL T).length)) rfl (owV_owL (owL_of ho)) ?_
    refine WL.freezeOw (f := tdC T) (m := 8) (tdC_len T) [_, _, _] [] o 236 (tdL T) rfl ho rfl (fun D7 hX7 hS7 => ?_)
    refine g [[4]] ?_
    refine WP.retMs [Dn1] [(mb, .map es1 clock1)] [_] [_] rfl rfl zU1 zU2 rfl zV (fun w1 hI => ⟨_, D7, [(mb, .map es1 clock1)], rfl, hX6.trans hX7 (Nat.le_refl _), hI, owAt o, _, rfl, hS7, es1, clock1, F1, rfl, hMR1, hFK1⟩)
  exact fun _ _ _ _ _ _ _ _ h => h.elim
theorem collT_g (T : Tide) (hT : TideOk T) (mb : Nat) (gf : Nat) (lb : List Value) (D : Imm) (w : World) (hit : ∀ w1, w.heap.size ≤ w1.heap.size → Holds D w1 → IterT Tryz.prog gf lb (tdL T).length (fun k => tdV T (gt (tdL T) k)) D (MapK T mb) w1) (hc : ∀ args w, (callFunc gf args).run Tryz.prog w = .ok (.enter gf args) w) (hM : Hp) (hMM : MapK T mb hM) (hI0 : Inv D hM [mb] w w) : AltersN Tryz.prog 170 [.func (.func gf) #[] lb.toArray] w D [mb] (fun v D' hp' => ∃ a c, v = .slice a (tdL T).length c ∧ SlL D' 8 ((tdL T).map (tdC T)) a (tdL T).length ∧ MapK T mb hp') := by
  unfold AltersN
  obtain ⟨es, clock, F, rfl, hMR, hFK⟩ := hMM
  refine en Tryz.func170 rfl Tryz.ntmps170 hI0 (g [[1],[5,0],[2,2,0]] ?_)
  refine WL.so (SO.altersNS (own := []) (hpc := [(mb, .map es clock)]) (fun _ h => h) (fun h => h) (Enters.func CaF.h rfl) (fun w2 hsz0 hI => appT_g T hT mb gf lb D w2 (fun w1 hs => hit w1 (Nat.le_trans hsz0 hs)) hc [(mb, .map es clock)] ⟨es, clock, F, rfl, hMR, hFK⟩ hI)) rfl ?_
  rintro _ D2 _ ⟨hp2, hX2, ⟨a, c, rfl, hS2, hMM2⟩, rfl⟩
  refine g [[4]] ?_
  refine WP.ret1 rfl rfl rfl (RV.tmp rfl) (fun w1 hI => ⟨_, D2, _, rfl, hX2, hI, a, c, rfl, hS2, hMM2⟩)
end Go.Proofs.YtejgofaeafphjaaGreatDoor
namespace Go.Proofs.YtejgofaeafphjaaGreatDoor
open Go.W Go.Ti
theorem sumU_cons (a : Int) (r : List Int) : sumU (a :: r) = 2 ^ a.toNat + sumU r := by simp [sumU]
theorem sumU_low : ∀ (l : List Int) (a : Nat), (∀ x ∈ l, (a : Int) ≤ x) → ∃ m, sumU l = 2 ^ a * m
  | [], a, _ => ⟨0, by simp [sumU]⟩
  | x :: r, a, h => by
    obtain ⟨m, hm⟩ := sumU_low r a fun y hy => h y (List.mem_cons_of_mem _ hy)
    have hx := h x List.mem_cons_self
    obtain ⟨d, hd⟩ : ∃ d, x.toNat = a + d := ⟨x.toNat - a, by omega⟩
    exact ⟨2 ^ d + m, by rw [sumU_cons, hm, hd, Nat.pow_add, Nat.mul_add]⟩
theorem sumU_high : ∀ (l : List Int) (lo hi : Nat), l.Pairwise (· < ·) → (∀ x ∈ l, (lo : Int) ≤ x ∧ x ≤ (hi : Int)) → lo ≤ hi + 1 → sumU l + 2 ^ lo ≤ 2 ^ (hi + 1)
  | [], lo, hi, _, _, hle => by
    have := Nat.pow_le_pow_right (show 0 < 2 by decide) hle
    simpa [sumU] using this
  | x :: r, lo, hi, hs, h, _ => by
    obtain ⟨h1, h2⟩ := List.pairwise_cons.1 hs
    have hx := h x List.mem_cons_self
    obtain ⟨n, rfl⟩ : ∃ n : Nat, x = (n : Int) := ⟨x.toNat, by omega⟩
    have ih := sumU_high r (n + 1) hi h2 (fun y hy => ⟨by have := h1 y hy; omega, (h y (List.mem_cons_of_mem _ hy)).2⟩) (by omega)
    have hp := Nat.pow_le_pow_right (show 0 < 2 by decide) (show lo ≤ n by omega)
    rw [sumU_cons, Int.toNat_natCast]
    rw [Nat.pow_succ] at ih
    omega
theorem sumU_mem : ∀ (l : List Int) (x : Int), x ∈ l → 2 ^ x.toNat ≤ sumU l
  | y :: r, x, h => by
    rw [sumU_cons]
    rcases List.mem_cons.1 h with rfl | h
    · exact Nat.le_add_right _ _
    exact Nat.le_trans (sumU_mem r x h) (Nat.le_add_left _ _)
theorem odd_pow : ∀ (a c m n : Nat), 2 ^ a * (2 * m + 1) = 2 ^ c * (2 * n + 1) → a = c
  | 0, 0, _, _, _ => rfl
  | 0, c + 1, m, n, h => by rw [Nat.pow_succ, Nat.mul_assoc, Nat.mul_left_comm] at h; omega
  | a + 1, 0, m, n, h => by rw [Nat.pow_succ, Nat.mul_assoc, Nat.mul_left_comm] at h; omega
  | a + 1, c + 1, m, n, h => by
    have : 2 ^ a * (2 * m + 1) = 2 ^ c * (2 * n + 1) := by
      rw [Nat.pow_succ, Nat.pow_succ, Nat.mul_comm (2 ^ a) 2, Nat.mul_comm (2 ^ c) 2, Nat.mul_assoc, Nat.mul_assoc] at h
      exact Nat.eq_of_mul_eq_mul_left (show 0 < 2 by decide) h
    rw [odd_pow a c m n this]
theorem set_low {l : List Int} (hs : l.Pairwise (· < ·)) (hn : ∀ x ∈ l, 0 ≤ x ∧ x ≤ 60) (hne : l ≠ []) : sumU l < 2 ^ 61 ∧ sumU l ≠ 0 ∧ (Lib.ctz 64 (sumU l) : Int) = headI l ∧ (Lib.bitLen (sumU l) : Int) - 1 = lastI l := by
  have hlt : sumU l < 2 ^ 61 := by
    have := sumU_high l 0 60 hs (fun x hx => by have := hn x hx; omega) (by omega)
    have h0 : (2 : Nat) ^ 0 = 1 := rfl
    omega
  have h0 : sumU l ≠ 0 := fun e => hne (sumU_nil.1 e)
  obtain ⟨e1, e2, e3⟩ := ends_spec hs hne
  refine ⟨hlt, h0, ?_, ?_⟩
  · obtain ⟨m, hm, _⟩ := Lib.ctzFrom_spec 64 (sumU l) (by omega) (Nat.lt_trans hlt (by decide))
    have hz : Lib.ctz 64 (sumU l) = Lib.ctzFrom 64 (sumU l) := by unfold Lib.ctz; rw [if_neg h0]
    rw [hz]
    cases l with
    | nil => exact absurd rfl hne
    | cons a r =>
      have ha := hn a List.mem_cons_self
      obtain ⟨n, rfl⟩ : ∃ n : Nat, a = (n : Int) := ⟨a.toNat, by omega⟩
      obtain ⟨q, hq⟩ := sumU_low r (n + 1) fun x hx => by have := (List.pairwise_cons.1 hs).1 x hx; omega
      have hx : sumU ((n : Int) :: r) = 2 ^ n * (2 * q + 1) := by
        rw [sumU_cons, Int.toNat_natCast, hq, Nat.pow_succ, Nat.mul_add, Nat.mul_assoc]; omega
      have := odd_pow n _ q m (hx.symm.trans hm)
      show ((Lib.ctzFrom 64 (sumU ((n : Int) :: r)) : Nat) : Int) = (n : Int)
      rw [← this]
  obtain ⟨b1, b2, b3⟩ := Lib.bitLenAux_bounds 64 (sumU l) (Nat.lt_trans hlt (by decide)) h0
  have hlast := hn _ e2
  obtain ⟨n, hnn⟩ : ∃ n : Nat, lastI l = (n : Int) := ⟨(lastI l).toNat, by omega⟩
  have h1 := sumU_mem l _ e2
  have h2 := sumU_high l 0 n hs (fun x hx => by have := e3 x hx; have := hn x hx; omega) (by omega)
  rw [hnn, Int.toNat_natCast] at h1
  rw [hnn]
  show ((Lib.bitLenAux 64 (sumU l) : Nat) : Int) - 1 = (n : Int)
  generalize Lib.bitLenAux 64 (sumU l) = L at b1 b2 b3
  have h3 : n < L := (Nat.pow_lt_pow_iff_right (show 1 < 2 by decide)).1 (Nat.lt_of_le_of_lt h1 b3)
  have h4 : L - 1 < n + 1 := (Nat.pow_lt_pow_iff_right (show 1 < 2 by decide)).1 (Nat.lt_of_le_of_lt b2 (by have h0 : (2 : Nat) ^ 0 = 1 := rfl; omega))
  omega
theorem setU_ends {T : Tide} (hT : TideOk T) {h : Hts} {p : Nat} (hp : p < T.sand.length) (hne : setL T h p ≠ []) : setU T h p < 2 ^ 61 ∧ setU T h p ≠ 0 ∧ (Lib.ctz 64 (setU T h p) : Int) = headI (setL T h p) ∧ (Lib.bitLen (setU T h p) : Int) - 1 = lastI (setL T h p) :=
  set_low (List.Pairwise.filter _ (rng_sorted _ _)) (fun x hx => set_num hT hp hx) hne
theorem toldD_g (T : Tide) (a1 a2 a3 : Option Addr) (n1 n2 n3 c1 c2 c3 : Nat) (D : Imm) (w : World) (hR : TideR D T a1 n1 a2 n2 a3 n3) (qb mb : Nat) (hq : D qb = some (shoO (.slice a1 n1 c1) (.slice a2 n2 c2) (.slice a3 n3 c3) mb)) (hH : Holds D w) (hT : TideOk T) (hdn : DoneD D) (hM : Hp) (hMM : MapK T mb hM) (hI0 : Inv D hM [mb] w w) : AltersV Tryz.prog 85 [pt qb] w D [mb] (fun v D' hp' => tdL T ≠ [] ∧ ∃ a c, v = .slice a (tdL T).length c ∧ SlL D' 8 ((tdL T).map (tdC T)) a (tdL T).length ∧ MapK T mb hp') (fun ch D' hp' => ch = stopD 10 ∧ tdL T = [] ∧ MapK T mb hp') := by
  unfold AltersV
  obtain rfl := hR.mark.len'
  obtain rfl := hR.sand.len'
  obtain rfl := hR.look.len'
  obtain ⟨hl1, hl2, hl3⟩ := hR.len
  obtain ⟨es, clock, F, rfl, hMR, hFK⟩ := hMM
  refine en Tryz.func85 rfl Tryz.ntmps85 hI0 (g [[1],[5,0],[3,2,0]] ?_)
  refine WL.cl rfl (fun w hI => every_g T a1 a2 a3 _ _ _ c1 c2 c3 D _ hR qb mb hq hI.imm hT) (WL.so (SO.makes (Enters.func Tryz.call171 rfl) (fun w hI => truthsD_g qb _ D _ hI.imm)) rfl ?_)
  rintro _ D1 _ ⟨hX1, ⟨bs, bm, rfl, h1, hm⟩, rfl⟩
  replace hR := hR.ext hX1
  replace hq := hX1.old _ _ hq
  replace hdn := hdn.ext hX1
  refine WL.so (SO.altersNS (own := []) (hpc := [(mb, .map es clock)]) (fun _ h => h) (fun h => h) (Enters.func CaF.h rfl) (fun w2 hsz0 hI => collT_g T hT mb 235 [pt bs, pt bm] D1 w2 (fun w1 hs hH1 => truthsD1_iter T a1 a2 a3 _ _ _ c1 c2 c3 qb mb bs bm D1 w1 hT hR hq hdn h1 hm) CaF.h [(mb, .map es clock)] ⟨es, clock, F, rfl, hMR, hFK⟩ hI)) rfl ?_
  rintro _ D2 _ ⟨hp2, hX2, ⟨a, c, rfl, hS2, hMM2⟩, rfl⟩
  refine g [[4],[4,3,2]] ?_
  refine WL.part 11 rfl (fun g11 => ?_) (fun g11 => ?_)
  · try simp only [zq] at g11
    refine WL.cl rfl (fun w hI => mustD_ok _ _) (g [[3],[6,3,2]] ?_)
    refine WP.ret1 rfl rfl rfl (RV.tmp rfl) (fun w1 hI => ⟨D2, _, hX1.trans hX2 (Nat.le_refl _), hI, .inl ⟨_, rfl, List.ne_nil_of_length_pos (by omega), a, c, rfl, hS2, hMM2⟩⟩)
  try simp only [zq] at g11
  refine WL.nf rfl (fun w hI => mustD_no _ _) (g [[1]] ?_)
  exact WP.panicBody rfl (fun w1 hI => ⟨D2, _, hX1.trans hX2 (Nat.le_refl _), hI, .inr ⟨_, rfl, rfl, List.length_eq_zero_iff.1 (by omega), hMM2⟩⟩)
end Go.Proofs.YtejgofaeafphjaaGreatDoor
namespace Go.Proofs.YtejgofaeafphjaaGreatDoor
open Go.W Go.Ti
theorem SA302 : StructAt Tryz.prog 302 [.int .i64 0, .int .i64 0, .bool false, .nilFunc] [(0, 2), (2, 1), (3, 1)] := ⟨⟨_, Tryz.zeroValue302, rfl⟩, _, Tryz.underlying302, fun w => by simp [Tryz.sizeOf4, Tryz.sizeOf39, Tryz.sizeOf240]⟩
@[reducible, instance] def ISA302 := SaF.mk SA302
def CloD (T : Tide) (mb : Nat) (D : Imm) (L : List Hts) (fi : FuncId) (cp : List Value) (gg : Hts → Int × Int) : Prop :=
  (∀ args w, (callFunc fi args).run Tryz.prog w = .ok (.enter fi args) w) ∧ ∀ h, h ∈ L → ∀ w hM, MapK T mb hM → Inv D hM [mb] w w → AltersN Tryz.prog fi (tdV T h :: cp) w D [mb] (fun v D' hp' => v = .tuple #[it (gg h).1, it (gg h).2] ∧ D' = D ∧ MapK T mb hp')
def hulO (of : Value) (s : Ms) : Obj := .cells (List.toArray [it s.2.1, it s.2.2, .bool s.1, of]) 302 (0, 0)
theorem gt_mem' {α : Type} [Inhabited α] {l : List α} {k : Nat} (h : k < l.length) : gt l k ∈ l := by
  have : gt l k = l[k] := by simp [gt, List.getD, h]
  rw [this]; exact List.getElem_mem h
theorem seeD_g (T : Tide) (mb : Nat) (L : List Hts) (fi : FuncId) (cp : List Value) (gg : Hts → Int × Int) (D : Imm) (hC : CloD T mb D L fi cp gg) (h : Hts) (hh : h ∈ L) (s : Ms) (hb : Nat) (hM : Hp) (hMM : MapK T mb hM) (w : World) (hI0 : Inv D ((hb, hulO (.func (.func fi) #[] cp.toArray) s) :: hM) [hb, mb] w w) : AltersN Tryz.prog 229 [pt hb, tdV T h] w D [hb, mb] (fun v D' hp' => v = .tuple #[] ∧ D' = D ∧ ∃ hM', MapK T mb hM' ∧ hp' = (hb, hulO (.func (.func fi) #[] cp.toArray) (seeD s (gg h))) :: hM') := by
  unfold AltersN
  obtain ⟨es, clock, F, rfl, hMR, hFK⟩ := hMM
  refine en Tryz.func229 rfl Tryz.ntmps229 hI0 (g [[1],[1,0,1]] ?_)
  refine WL.so (SO.box rfl rfl) rfl (zw fun b3 hb3 => ?_)
  refine g [[3],[0,3,0]] ?_
  refine WC.drawO [_, _] (pz [1,3,5,7,9,10,13,15,17,19,21]) zk zk zX (fun _ hI => Inv.left (l1 := [_, _]) (l2 := [_]) hI) (g [[5]] ?_)
  refine WA.know 11 (tdV T h) rfl rfl (WA.so rfl (SO.altersN (own := [_, _]) (hpc := [(mb, .map es clock)]) (S1 := [mb]) (fun _ h => h) (fun h => h) (fun _ h => h) (fun _ h => h) (Enters.val hC.1 rfl rfl) (fun w1 hI => hC.2 h hh w1 _ ⟨es, clock, F, rfl, hMR, hFK⟩ hI)) rfl ?_)
  rintro _ _ _ ⟨hp3, _, ⟨rfl, rfl, hMM2⟩, rfl⟩
  refine ⟨fun _ hI => Inv.left (l1 := [_, _]) hI, ?_⟩
  refine g [[9],[8,5,4,0]] ?_
  refine WC.cond rfl (fun c19 => ?_) (fun c19 => ?_)
  · try simp only [zq] at c19
    refine g [[14,5,4,0],[0,5,4,0],[3016],[7]] ?_
    refine WQ.q rfl (Yd.qt (Yd.min2 rfl rfl)) rfl (g [[6]] ?_)
    refine WQ.q rfl (Yd.qt (Yd.max2 rfl rfl)) rfl (g [[6]] ?_)
    refine WP.ret0 rfl rfl rfl  (fun w1 hI => ⟨_, _, _, rfl, DExt.refl _ _, hI.drop 1, rfl, rfl, hp3, hMM2, by first | rfl | (simp_all [hulO, seeD, splice]; exact ⟨rfl, rfl⟩)⟩)
  try simp only [zq] at c19
  refine g [[2],[0,5,4,0],[3016],[7]] ?_
  refine WQ.q rfl (Yd.qt (Yd.min2 rfl rfl)) rfl (g [[6]] ?_)
  refine WQ.q rfl (Yd.qt (Yd.max2 rfl rfl)) rfl (g [[6]] ?_)
  refine WP.ret0 rfl rfl rfl  (fun w1 hI => ⟨_, _, _, rfl, DExt.refl _ _, hI.drop 1, rfl, rfl, hp3, hMM2, by first | rfl | (simp_all [hulO, seeD, splice]; exact ⟨rfl, rfl⟩)⟩)
theorem spanD_g (T : Tide) (mb : Nat) (L : List Hts) (fi : FuncId) (cp : List Value) (gg : Hts → Int × Int) (D : Imm) (hC : CloD T mb D L fi cp gg) (a : Option Addr) (n c : Nat) (hS : SlL D 8 (L.map (tdC T)) a n) (hn : n ≤ 1000) (hM : Hp) (hMM : MapK T mb hM) (w : World) (hI0 : Inv D hM [mb] w w) : AltersN Tryz.prog 166 [.slice a n c, (.func (.func fi) #[] cp.toArray)] w D [mb] (fun v D' hp' => v = .agg #[it (spanD gg L).lo, it (spanD gg L).hi] ∧ D' = D ∧ MapK T mb hp') := by
  unfold AltersN
  obtain rfl := hS.len'
  obtain ⟨es, clock, F, rfl, hMR, hFK⟩ := hMM
  refine en Tryz.func166 rfl Tryz.ntmps166 hI0 (g [[1],[1,0,1]] ?_)
  refine WL.so (SO.alloc ZvF.h rfl) rfl (zw fun b4 hb4 => ?_)
  refine g [[3],[3,4,0,1]] ?_
  refine WL.so (SO.alloc ZvF.h rfl) rfl (zw fun b5 hb5 => ?_)
  refine g [[5],[7,5,4,0]] ?_
  refine WC.loop (fun y : Nat × Hp => [(4, pt b4), (5, pt b5), (10, .slice a L.length c), (11, nt L.length), (12, nt y.1)]) (fun y => (b5, hulO (.func (.func fi) #[] cp.toArray) (foldD gg (L.take y.1))) :: (b4, .cells (List.toArray [it 0, it 0]) 39 (0, 0)) :: y.2) (fun _ => D) (fun y => y.1 ≤ L.length ∧ MapK T mb y.2) (fun y => L.length - y.1) (0, [(mb, .map es clock)]) ⟨by omega, es, clock, F, rfl, hMR, hFK⟩ (fun a w h => at_fr h ⟨rfl, rfl, rfl, rfl, rfl, trivial⟩) ?_
  rintro ⟨k, hM2⟩ ⟨hk, hMM2⟩
  dsimp only at hk hMM2
  clear hMR hFK
  obtain ⟨es, clock, F, rfl, hMR, hFK⟩ := hMM2
  refine g [[1],[5,4,5,10,11,12]] ?_
  refine WC.cond rfl (fun c13 => ?_) (fun c13 => ?_)
  · try simp only [zq] at c13
    have hkn : k < L.length := by omega
    refine g [[5],[1,4,5,10,11,12]] ?_
    refine WL.yd (Yd.ix rfl rfl (hS.addr k (by omega))) rfl (WL.yd (Yd.lV [_, _, _, _, _, _, _, _] rfl ((hS.at k (by omega)).rdn 0 8 rfl)) rfl ?_)
    refine WL.know 15 (tdV T (gt L k)) rfl rfl ?_
    refine WL.so (SO.alloc ZvF.h rfl) rfl (zw fun b7 hb7 => ?_)
    refine WL.so (SO.store 0 rfl SzF.h rfl rfl rfl rfl (zqb rfl) (tdC_one T _)) rfl (zt (g [[2],[2,7,4,5,10,11,12]] ?_))
    refine WL.know 16 (tdV T (gt L k)) rfl rfl (WL.so (SO.altersN (own := [_, _]) (hpc := [_, (mb, .map es clock)]) (S1 := [b5, mb]) (permS ((List.Perm.swap _ _ _).cons _)).1 (permS ((List.Perm.swap _ _ _).cons _)).2 (fun _ h => h) (fun _ h => h) (Enters.func CaF.h rfl) (fun w1 hI => seeD_g T mb L fi cp gg D hC (gt L k) (gt_mem' hkn) (foldD gg (L.take k)) b5 [(mb, .map es clock)] ⟨es, clock, F, rfl, hMR, hFK⟩ w1 hI)) rfl ?_)
    rintro _ _ _ ⟨_, _, ⟨rfl, rfl, hM3, hMM3, rfl⟩, rfl⟩
    refine g [[3],[4,4,5,10,11,12]] ?_
    exact WP.again (⟨k + 1, hM3⟩ : Nat × Hp) ⟨by simp only; omega, hMM3⟩ (by simp only; omega) (fun a w h => at_drop 1 h ⟨rfl, rfl, rfl, rfl, rfl, trivial⟩ (by dsimp only; rw [foldD_take gg hkn]; exact List.Perm.swap _ _ _))
  try simp only [zq] at c13
  obtain rfl : k = L.length := by omega
  rw [List.take_length]
  refine g [[6],[7,4,5]] ?_
  refine WP.ret1 rfl rfl rfl (RV.cellN AgF.h SzF.h rfl (vs := [_, _]) rfl (RdN.own (k := 1) (n := 2) rfl rfl)) (fun w1 hI => ⟨_, D, _, rfl, DExt.refl _ _, hI.drop 2, rfl, rfl, es, clock, F, rfl, hMR, hFK⟩)
end Go.Proofs.YtejgofaeafphjaaGreatDoor
