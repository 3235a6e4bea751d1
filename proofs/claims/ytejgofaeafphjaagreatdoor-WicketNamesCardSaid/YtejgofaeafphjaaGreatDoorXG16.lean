import Derived.Test.YtejgofaeafphjaaGreatDoorXG14
import Derived.Test.YtejgofaeafphjaaGreatDoorXG15
import Derived.Test.YtejgofaeafphjaaGreatDoorXG13
import Derived.Lib.SplitLaws
import Derived.Lib.Strings
import Derived.Test.YtejgofaeafphjaaGreatDoorXG5
import Derived.Test.YtejgofaeafphjaaGreatDoorXG7
set_option linter.unusedSimpArgs false
set_option linter.unusedVariables false
set_option linter.all false
set_option maxRecDepth 100000
set_option maxHeartbeats 4000000
attribute [local irreducible] Go.W.WL Go.W.WLF Go.W.WC Go.W.WCF Go.W.WP Go.W.WA Go.W.WQ Go.W.WH Go.W.WHo Go.W.WCn Go.W.Yd Go.W.Qt Go.W.SO Go.Code.wp Go.Code.wpIn
namespace Go.Ti
open Go.W
def minT (n : Int) : Bool := decide (0 ≤ n ∧ n ≤ 240)
def waitB (t : Tru) (i : Nat) (m : Int) : Bool := decide ((t i).1 ≤ m ∧ m ≤ (t i).2)
def nowI (t : Tru) (m : Int) : Nat → Int
  | 0 => -1
  | i + 1 => if waitB t i m = true ∧ (nowI t m i < 0 ∨ befT t i (nowI t m i).toNat = true) then (i : Int) else nowI t m i
def usedB (T : Tks) (t : Tru) (hut m : Int) : Bool := (List.range T.l.length).any fun i => decide ((gt T.l i).hut = hut) && decide (0 ≤ m - (t i).2 ∧ m - (t i).2 ≤ 29)
def WhoseOut (T : Tks) (m : Int) : Int × Bool × Int := if tksE T (minT m) ≠ 0 then (0, false, tksE T (minT m)) else ((bitsI (fun i => (allT T).any fun t => decide (nowI t m T.l.length = (i : Int))) T.l.length : Int), (allT T).any (fun t => decide (nowI t m T.l.length < 0)), 0)
def FreeOut (T : Tks) (hut m : Int) : Int × Int := if tksE T (hutT T hut && minT m) ≠ 0 then (0, tksE T (hutT T hut && minT m)) else (gradeI ((allT T).any fun t => !usedB T t hut m) ((allT T).any fun t => usedB T t hut m), 0)
structure Wick where
  huts : Int
  price : Int
  fine : Int
  wait : Int
  marks : List Mark
  sand : List Sp
deriving Inhabited
structure Day where
  tks : List Tick
  looks : List Look
  book : List Ent
deriving Inhabited
def day0 : Day := ⟨[], [], []⟩
def tideW (w : Wick) (d : Day) : Tide := ⟨w.marks, w.sand, d.looks⟩
def tksW (w : Wick) (d : Day) : Tks := ⟨w.huts, d.tks⟩
def tillW (w : Wick) (d : Day) : Till := ⟨tksW w d, w.price, w.fine, w.wait⟩
def wickB (w : Wick) : Bool := tillB (tillW w day0) && tideB (tideW w day0)
def repL (w : Bs) (l : List Int) : Bs := w ++ l.flatMap fun n => 32 :: Lib.itoa n
def ticketS : Bs := [116, 105, 99, 107, 101, 116]
def lookS : Bs := [108, 111, 111, 107]
def turnS : Bs := [116, 117, 114, 110]
def whoseS : Bs := [119, 104, 111, 115, 101]
def freeS : Bs := [102, 114, 101, 101]
def depthS_ : Bs := [100, 101, 112, 116, 104]
def firstS : Bs := [102, 105, 114, 115, 116]
def bookS : Bs := [98, 111, 111, 107]
def sumS : Bs := [115, 117, 109]
def payS : Bs := [112, 97, 121]
def fineS : Bs := [102, 105, 110, 101]
def backS : Bs := [98, 97, 99, 107]
def paidS : Bs := [112, 97, 105, 100]
def wordN (s : Bs) : Option Nat :=
  if s = ticketS then some 5 else if s = lookS then some 4 else if s = turnS then some 1 else if s = whoseS then some 1 else if s = freeS then some 2 else if s = depthS_ then some 2 else
  if s = firstS then some 3 else if s = bookS then some 0 else if s = sumS then some 0 else if s = payS then some 1 else if s = fineS then some 1 else if s = backS then some 2 else none
def numsL : List Bs → Option (List Int)
  | [] => some []
  | s :: l => (numP s).bind fun v => (numsL l).map fun r => v :: r
abbrev Rep := Day × Bs × Int
def errD (d : Day) (e : Int) : Rep := (d, [], e)
def sellD (w : Wick) (d : Day) (x : Tick) : Rep :=
  if 5 ≤ d.tks.length then errD d 9 else if tksB ⟨w.huts, d.tks ++ [x]⟩ = false then errD d 2 else ({ d with tks := d.tks ++ [x] }, repL ticketS [(d.tks.length : Int)], 0)
def lookD (w : Wick) (d : Day) (x : Look) : Rep :=
  if 6 ≤ d.looks.length then errD d 9 else if tideB ⟨w.marks, w.sand, d.looks ++ [x]⟩ = false then errD d 2 else ({ d with looks := d.looks ++ [x] }, repL lookS [(d.looks.length : Int)], 0)
def bookD (d : Day) (x : Ent) : Rep :=
  if (d.tks.length : Int) ≤ x.ticket then errD d 2 else if bookedB d.book x.ticket x.kind = true then errD d 5 else ({ d with book := d.book ++ [x] }, repL paidS [(d.book.length : Int)], 0)
def askD (d : Day) (s : Bs) (r : List Int) (e : Int) : Rep := if e ≠ 0 then errD d e else (d, repL s r, 0)
def boolI (b : Bool) : Int := if b then 1 else 0
def doD (w : Wick) (d : Day) (s : Bs) (l : List Int) : Rep :=
  if s = ticketS then sellD w d ⟨⟨gt l 0, gt l 1⟩, gt l 2, ⟨gt l 3, gt l 4⟩⟩ else
  if s = lookS then lookD w d ⟨gt l 0, gt l 1, ⟨gt l 2, gt l 3⟩⟩ else
  if s = turnS then askD d turnS [(TurnOut (tksW w d) (gt l 0)).1] (TurnOut (tksW w d) (gt l 0)).2 else
  if s = whoseS then askD d whoseS [(WhoseOut (tksW w d) (gt l 0)).1, boolI (WhoseOut (tksW w d) (gt l 0)).2.1] (WhoseOut (tksW w d) (gt l 0)).2.2 else
  if s = freeS then askD d freeS [(FreeOut (tksW w d) (gt l 0) (gt l 1)).1] (FreeOut (tksW w d) (gt l 0) (gt l 1)).2 else
  if s = depthS_ then askD d depthS_ [(DepthOut (tideW w d) (gt l 0) (gt l 1)).1.lo, (DepthOut (tideW w d) (gt l 0) (gt l 1)).1.hi] (DepthOut (tideW w d) (gt l 0) (gt l 1)).2 else
  if s = firstS then askD d firstS [(FirstOut (tideW w d) (gt l 0) (gt l 1) (gt l 2)).1] (FirstOut (tideW w d) (gt l 0) (gt l 1) (gt l 2)).2 else
  if s = bookS then (if (CheckOut (tillW w d) d.book).2.2 = 4 then (d, bookS, 0) else askD d bookS [(CheckOut (tillW w d) d.book).1, (CheckOut (tillW w d) d.book).2.1] (CheckOut (tillW w d) d.book).2.2) else
  if s = sumS then askD d sumS [(SumOut (tillW w d) d.book).1] (SumOut (tillW w d) d.book).2 else
  if s = payS then bookD d ⟨gt l 0, 1, w.price⟩ else
  if s = fineS then bookD d ⟨gt l 0, 2, w.fine⟩ else bookD d ⟨gt l 0, 3, gt l 1⟩
def lineD (w : Wick) (d : Day) (s : Bs) : Rep :=
  if 60 < s.length then errD d 3 else match wordN ((Lib.split s [32]).headD []) with
  | none => errD d 8
  | some n => if (Lib.split s [32]).length ≠ n + 1 then errD d 8 else match numsL (Lib.split s [32]).tail with
    | none => errD d 8
    | some l => doD w d ((Lib.split s [32]).headD []) l
def linesD (w : Wick) : Day → List Bs → Day
  | d, [] => d
  | d, s :: l => linesD w (lineD w d s).1 l
def repsD (w : Wick) : Day → List Bs → List Bs × Nat
  | _, [] => ([], 0)
  | d, s :: l => ((lineD w d s).2.1 :: (repsD w (lineD w d s).1 l).1, (if (lineD w d s).2.2 ≠ 0 then 1 else 0) + (repsD w (lineD w d s).1 l).2)
def PlayOut (w : Wick) (l : List Bs) : List Bs × Int × Int := if 60 < l.length then ([], 0, 3) else if wickB w = false then ([], 0, 1) else ((repsD w day0 l).1, ((repsD w day0 l).2 : Int), 0)
def partsR : Bs → Bs → List Bs
  | acc, [] => [acc]
  | acc, d :: r => if d = 32 then acc :: partsR [] r else partsR (acc ++ [d]) r
theorem parts_flat : ∀ (p acc q : Bs), (32 : UInt8) ∉ p → partsR acc (p ++ 32 :: q) = (acc ++ p) :: partsR [] q
  | [], acc, q, _ => by simp [partsR]
  | d :: p, acc, q, h => by
    rw [List.cons_append, partsR, if_neg (fun e => h (by simp [e])), parts_flat p _ q (fun hm => h (by simp [hm]))]
    simp
theorem parts_one : ∀ (p acc : Bs), (32 : UInt8) ∉ p → partsR acc p = [acc ++ p]
  | [], acc, _ => by simp [partsR]
  | d :: p, acc, h => by
    rw [partsR, if_neg (fun e => h (by simp [e])), parts_one p _ (fun hm => h (by simp [hm]))]
    simp
theorem cut32 : ∀ s : Bs, (32 : UInt8) ∈ s → ∃ p q, s = p ++ 32 :: q ∧ (32 : UInt8) ∉ p
  | [], h => by cases h
  | c :: s, h => by
    by_cases e : c = 32
    · exact ⟨[], s, by rw [e]; rfl, by simp⟩
    · have e' : ¬ 32 = c := fun x => e x.symm
      obtain ⟨p, q, h1, h2⟩ := cut32 s (by simpa [e'] using h)
      exact ⟨c :: p, q, by rw [h1]; rfl, by simp [h2, e']⟩
end Go.Ti
namespace Go.Ti
open Go.W
theorem index_at {c : UInt8} (r q : Bs) {p : Bs} (h : c ∉ p) : Lib.index (p ++ (c :: r ++ q)) (c :: r) = (p.length : Int) := by
  refine Lib.index_first (by simp) (by simp [Lib.occAt]) fun j hj => ?_
  unfold Lib.occAt
  rw [List.drop_append_of_le_length (by omega)]
  cases e : p.drop j with
  | nil => have := congrArg List.length e; simp at this; omega
  | cons d t =>
    have hd : d ∈ p := List.mem_of_mem_drop (by rw [e]; simp)
    have : (c == d) = false := by rw [beq_eq_false_iff_ne]; intro e'; exact h (e' ▸ hd)
    rw [List.cons_append, List.isPrefixOf_cons_cons, this, Bool.false_and]
theorem index_no {c : UInt8} (r : Bs) {s : Bs} (h : c ∉ s) : Lib.index s (c :: r) = -1 := by
  refine Lib.index_none fun j _ => ?_
  unfold Lib.occAt
  cases e : s.drop j with
  | nil => rfl
  | cons d t =>
    have hd : d ∈ s := List.mem_of_mem_drop (by rw [e]; simp)
    have : (c == d) = false := by rw [beq_eq_false_iff_ne]; intro e'; exact h (e' ▸ hd)
    rw [List.isPrefixOf_cons_cons, this, Bool.false_and]
theorem split_cons {p : Bs} (q : Bs) (h : (32 : UInt8) ∉ p) : Lib.split (p ++ 32 :: q) [32] = p :: Lib.split q [32] := by
  have hi : Lib.index (p ++ 32 :: q) [32] = (p.length : Int) := index_at [] q h
  have hc := Lib.count_hit (s := p ++ 32 :: q) (sub := [32]) (by simp) hi
  have hd : (p ++ 32 :: q).drop (p.length + 1) = q := by
    rw [← List.drop_drop, List.drop_append_of_le_length (by omega), List.drop_of_length_le (l := p) (by omega)]; rfl
  unfold Lib.split
  rw [hc, Nat.add_comm, Lib.splitK, if_neg (by rw [hi, beq_iff_eq]; omega), hi, Int.toNat_natCast]
  simp only [List.length_singleton, Nat.add_zero]
  rw [hd, List.take_append_of_le_length (by omega), List.take_of_length_le (by omega)]
theorem split_one {p : Bs} (h : (32 : UInt8) ∉ p) : Lib.split p [32] = [p] := by
  unfold Lib.split
  rw [Lib.count_miss (index_no [] h)]
  rfl
theorem split_parts : ∀ (n : Nat) (s : Bs), s.length ≤ n → Lib.split s [32] = partsR [] s
  | n, s, hn => by
    by_cases h : (32 : UInt8) ∈ s
    · obtain ⟨p, q, rfl, hp⟩ := cut32 s h
      rw [split_cons q hp, parts_flat p [] q hp, List.nil_append]
      cases n with
      | zero => simp at hn
      | succ n => rw [split_parts n q (by simp at hn; omega)]
    · rw [split_one h, parts_one s [] h, List.nil_append]
theorem split_ne (s : Bs) : Lib.split s [32] ≠ [] := by
  by_cases h : (32 : UInt8) ∈ s
  · obtain ⟨p, q, rfl, hp⟩ := cut32 s h
    rw [split_cons q hp]; simp
  · rw [split_one h]; simp
structure DayOk (w : Wick) (d : Day) : Prop where
  tks : tksB (tksW w d) = true
  tide : tideB (tideW w d) = true
  ent : ∀ i, i < d.book.length → (0 ≤ (gt d.book i).ticket ∧ (gt d.book i).ticket < (d.tks.length : Int)) ∧ (1 ≤ (gt d.book i).kind ∧ (gt d.book i).kind ≤ 3)
  once : ∀ i, i < d.book.length → bookedB (d.book.take i) (gt d.book i).ticket (gt d.book i).kind = false
  due : ∀ i, i < d.book.length → ((gt d.book i).kind = 1 → (gt d.book i).pence = w.price) ∧ ((gt d.book i).kind = 2 → (gt d.book i).pence = w.fine)
theorem day0_ok {w : Wick} (h : wickB w = true) : DayOk w day0 := by
  simp only [wickB, tillB, Bool.and_eq_true] at h
  exact ⟨h.1.1.1.1, h.2, fun i hi => absurd hi (Nat.not_lt_zero _), fun i hi => absurd hi (Nat.not_lt_zero _), fun i hi => absurd hi (Nat.not_lt_zero _)⟩
theorem ask_day (d : Day) (s : Bs) (r : List Int) (e : Int) : (askD d s r e).1 = d := by unfold askD; split <;> rfl
theorem sell_ok {w : Wick} {d : Day} (h : DayOk w d) (x : Tick) : DayOk w (sellD w d x).1 := by
  unfold sellD
  split
  · exact h
  · split
    · exact h
    · rename_i h1 h2
      refine ⟨by simpa [tksW] using h2, h.tide, fun i hi => ?_, h.once, h.due⟩
      have := h.ent i hi
      refine ⟨⟨this.1.1, ?_⟩, this.2⟩
      have h3 : ((d.tks ++ [x]).length : Int) = d.tks.length + 1 := by simp
      show (gt d.book i).ticket < ((d.tks ++ [x]).length : Int)
      omega
theorem look_ok {w : Wick} {d : Day} (h : DayOk w d) (x : Look) : DayOk w (lookD w d x).1 := by
  unfold lookD
  split
  · exact h
  · split
    · exact h
    · rename_i h1 h2
      exact ⟨h.tks, by simpa [tideW] using h2, h.ent, h.once, h.due⟩
theorem book_ok {w : Wick} {d : Day} (h : DayOk w d) (x : Ent) (h0 : 0 ≤ x.ticket) (hk : 1 ≤ x.kind ∧ x.kind ≤ 3) (hp : (x.kind = 1 → x.pence = w.price) ∧ (x.kind = 2 → x.pence = w.fine)) : DayOk w (bookD d x).1 := by
  unfold bookD
  split
  · exact h
  · split
    · exact h
    · rename_i h1 h2
      have app : ∀ i, i < (d.book ++ [x]).length → (i < d.book.length ∧ gt (d.book ++ [x]) i = gt d.book i) ∨ (i = d.book.length ∧ gt (d.book ++ [x]) i = x) := fun i hi => by
        rcases Nat.lt_or_ge i d.book.length with h3 | h3
        · exact .inl ⟨h3, gt_app_left h3⟩
        · have h4 : i = d.book.length := by simp at hi; omega
          subst h4
          exact .inr ⟨rfl, by simp [gt, List.getD]⟩
      refine ⟨h.tks, h.tide, fun i hi => ?_, fun i hi => ?_, fun i hi => ?_⟩
      · rcases app i hi with ⟨h3, e⟩ | ⟨_, e⟩ <;> simp only [e]
        · exact h.ent i h3
        · exact ⟨⟨h0, by omega⟩, hk⟩
      · rcases app i hi with ⟨h3, e⟩ | ⟨h3, e⟩ <;> simp only [e]
        · rw [List.take_append_of_le_length (by omega)]; exact h.once i h3
        · rw [h3, List.take_append_of_le_length (by omega), List.take_length]; simpa using h2
      · rcases app i hi with ⟨h3, e⟩ | ⟨_, e⟩ <;> simp only [e]
        · exact h.due i h3
        · exact hp
theorem numsL_nn : ∀ (l : List Bs) (ns : List Int), numsL l = some ns → ns.length = l.length ∧ ∀ n ∈ ns, 0 ≤ n ∧ n < 1000000
  | [], ns, h => by cases h; exact ⟨rfl, by simp⟩
  | s :: l, ns, h => by
    rw [numsL] at h
    cases e : numP s with
    | none => rw [e] at h; cases h
    | some v =>
      cases e2 : numsL l with
      | none => rw [e, e2] at h; cases h
      | some r =>
        rw [e, e2] at h
        simp only [Option.bind_some, Option.map_some, Option.some.injEq] at h
        subst h
        obtain ⟨h1, h2⟩ := numsL_nn l r e2
        refine ⟨by simp [h1], fun n hn => ?_⟩
        rcases List.mem_cons.1 hn with rfl | hn
        · exact num_num e
        · exact h2 n hn
theorem gt_nn {ns : List Int} (h : ∀ n ∈ ns, 0 ≤ n ∧ n < 1000000) (i : Nat) : 0 ≤ gt ns i := by
  rcases Nat.lt_or_ge i ns.length with h1 | h1
  · exact (h _ (gt_mem h1)).1
  · rw [gt_out h1]; decide
theorem do_ok {w : Wick} {d : Day} (h : DayOk w d) (s : Bs) {l : List Int} (hl : ∀ n ∈ l, 0 ≤ n ∧ n < 1000000) : DayOk w (doD w d s l).1 := by
  have hb : ∀ (k p : Int), (1 ≤ k ∧ k ≤ 3) → (k = 1 → p = w.price) ∧ (k = 2 → p = w.fine) → DayOk w (bookD d ⟨gt l 0, k, p⟩).1 := fun k p hk hp => book_ok h _ (gt_nn hl 0) hk hp
  have ha : ∀ s r e, DayOk w (askD d s r e).1 := fun s r e => by rw [ask_day]; exact h
  by_cases h1 : s = ticketS
  · rw [doD, if_pos h1]; exact sell_ok h _
  rw [doD, if_neg h1]
  by_cases h2 : s = lookS
  · rw [if_pos h2]; exact look_ok h _
  rw [if_neg h2]
  by_cases h3 : s = turnS
  · rw [if_pos h3]; exact ha _ _ _
  rw [if_neg h3]
  by_cases h4 : s = whoseS
  · rw [if_pos h4]; exact ha _ _ _
  rw [if_neg h4]
  by_cases h5 : s = freeS
  · rw [if_pos h5]; exact ha _ _ _
  rw [if_neg h5]
  by_cases h6 : s = depthS_
  · rw [if_pos h6]; exact ha _ _ _
  rw [if_neg h6]
  by_cases h7 : s = firstS
  · rw [if_pos h7]; exact ha _ _ _
  rw [if_neg h7]
  by_cases h8 : s = bookS
  · rw [if_pos h8]
    by_cases h9 : (CheckOut (tillW w d) d.book).2.2 = 4
    · rw [if_pos h9]; exact h
    · rw [if_neg h9]; exact ha _ _ _
  rw [if_neg h8]
  by_cases h9 : s = sumS
  · rw [if_pos h9]; exact ha _ _ _
  rw [if_neg h9]
  by_cases h10 : s = payS
  · rw [if_pos h10]; exact hb _ _ (by decide) ⟨fun _ => rfl, fun e => absurd e (by decide)⟩
  rw [if_neg h10]
  by_cases h11 : s = fineS
  · rw [if_pos h11]; exact hb _ _ (by decide) ⟨fun e => absurd e (by decide), fun _ => rfl⟩
  rw [if_neg h11]
  exact hb _ _ (by decide) ⟨fun e => absurd e (by decide), fun e => absurd e (by decide)⟩
theorem line_ok {w : Wick} {d : Day} (h : DayOk w d) (s : Bs) : DayOk w (lineD w d s).1 := by
  unfold lineD
  split
  · exact h
  · split
    · exact h
    · split
      · exact h
      · split
        · exact h
        · rename_i e
          exact do_ok h _ (numsL_nn _ _ e).2
theorem lines_ok {w : Wick} : ∀ (l : List Bs) {d : Day}, DayOk w d → DayOk w (linesD w d l)
  | [], _, h => h
  | s :: l, _, h => lines_ok l (line_ok h s)
end Go.Ti
namespace Go.Ti
open Go.W
section
variable (w : Wick) (d : Day) (l : List Int)
theorem do_ticket : doD w d ticketS l = sellD w d ⟨⟨gt l 0, gt l 1⟩, gt l 2, ⟨gt l 3, gt l 4⟩⟩ := by rw [doD, if_pos rfl]
theorem do_look : doD w d lookS l = lookD w d ⟨gt l 0, gt l 1, ⟨gt l 2, gt l 3⟩⟩ := by rw [doD, if_neg (by decide), if_pos rfl]
theorem do_turn : doD w d turnS l = askD d turnS [(TurnOut (tksW w d) (gt l 0)).1] (TurnOut (tksW w d) (gt l 0)).2 := by rw [doD, if_neg (by decide), if_neg (by decide), if_pos rfl]
theorem do_whose : doD w d whoseS l = askD d whoseS [(WhoseOut (tksW w d) (gt l 0)).1, boolI (WhoseOut (tksW w d) (gt l 0)).2.1] (WhoseOut (tksW w d) (gt l 0)).2.2 := by
  rw [doD, if_neg (by decide), if_neg (by decide), if_neg (by decide), if_pos rfl]
theorem do_free : doD w d freeS l = askD d freeS [(FreeOut (tksW w d) (gt l 0) (gt l 1)).1] (FreeOut (tksW w d) (gt l 0) (gt l 1)).2 := by
  rw [doD, if_neg (by decide), if_neg (by decide), if_neg (by decide), if_neg (by decide), if_pos rfl]
theorem do_depth : doD w d depthS_ l = askD d depthS_ [(DepthOut (tideW w d) (gt l 0) (gt l 1)).1.lo, (DepthOut (tideW w d) (gt l 0) (gt l 1)).1.hi] (DepthOut (tideW w d) (gt l 0) (gt l 1)).2 := by
  rw [doD, if_neg (by decide), if_neg (by decide), if_neg (by decide), if_neg (by decide), if_neg (by decide), if_pos rfl]
theorem do_first : doD w d firstS l = askD d firstS [(FirstOut (tideW w d) (gt l 0) (gt l 1) (gt l 2)).1] (FirstOut (tideW w d) (gt l 0) (gt l 1) (gt l 2)).2 := by
  rw [doD, if_neg (by decide), if_neg (by decide), if_neg (by decide), if_neg (by decide), if_neg (by decide), if_neg (by decide), if_pos rfl]
theorem do_book : doD w d bookS l = if (CheckOut (tillW w d) d.book).2.2 = 4 then (d, bookS, 0) else askD d bookS [(CheckOut (tillW w d) d.book).1, (CheckOut (tillW w d) d.book).2.1] (CheckOut (tillW w d) d.book).2.2 := by
  rw [doD, if_neg (by decide), if_neg (by decide), if_neg (by decide), if_neg (by decide), if_neg (by decide), if_neg (by decide), if_neg (by decide), if_pos rfl]
theorem do_sum : doD w d sumS l = askD d sumS [(SumOut (tillW w d) d.book).1] (SumOut (tillW w d) d.book).2 := by
  rw [doD, if_neg (by decide), if_neg (by decide), if_neg (by decide), if_neg (by decide), if_neg (by decide), if_neg (by decide), if_neg (by decide), if_neg (by decide), if_pos rfl]
theorem do_pay : doD w d payS l = bookD d ⟨gt l 0, 1, w.price⟩ := by
  rw [doD, if_neg (by decide), if_neg (by decide), if_neg (by decide), if_neg (by decide), if_neg (by decide), if_neg (by decide), if_neg (by decide), if_neg (by decide), if_neg (by decide), if_pos rfl]
theorem do_fine : doD w d fineS l = bookD d ⟨gt l 0, 2, w.fine⟩ := by
  rw [doD, if_neg (by decide), if_neg (by decide), if_neg (by decide), if_neg (by decide), if_neg (by decide), if_neg (by decide), if_neg (by decide), if_neg (by decide), if_neg (by decide), if_neg (by decide), if_pos rfl]
theorem do_back : doD w d backS l = bookD d ⟨gt l 0, 3, gt l 1⟩ := by
  rw [doD, if_neg (by decide), if_neg (by decide), if_neg (by decide), if_neg (by decide), if_neg (by decide), if_neg (by decide), if_neg (by decide), if_neg (by decide), if_neg (by decide), if_neg (by decide), if_neg (by decide)]
end
theorem pig : ∀ (n : Nat) (l : List Nat), l.Nodup → (∀ x ∈ l, x < n) → l.length ≤ n
  | 0, l, _, h => by
    cases l with
    | nil => exact Nat.le_refl _
    | cons a r => exact absurd (h a (by simp)) (Nat.not_lt_zero _)
  | n + 1, l, hn, h => by
    by_cases hm : n ∈ l
    · have h1 := pig n (l.erase n) (hn.erase n) (fun x hx => by
        have h2 := (hn.mem_erase_iff).1 hx
        have := h x h2.2
        have := h2.1
        omega)
      rw [List.length_erase_of_mem hm] at h1
      omega
    · have h1 := pig n l hn (fun x hx => by
        have := h x hx
        have : x ≠ n := fun e => hm (e ▸ hx)
        omega)
      omega
theorem booked_at {l : List Ent} {t k : Int} (h : bookedB l t k = false) {j : Nat} (hj : j < l.length) : ¬ ((gt l j).ticket = t ∧ (gt l j).kind = k) := fun e => by
  exact List.any_eq_false.1 h _ (gt_mem hj) (decide_eq_true e)
theorem gt_takeC {α : Type} [Inhabited α] {l : List α} {i j : Nat} (h : j < i) : gt (l.take i) j = gt l j := by
  simp only [gt, List.getD, List.getElem?_take_of_lt h]
theorem ent_len {w : Wick} {d : Day} (hd : DayOk w d) : d.book.length ≤ 15 := by
  have h5 : d.tks.length ≤ 5 := (tks_num hd.tks).2.1
  have h := pig 15 (d.book.map fun e => ((e.ticket * 3 + e.kind) - 1).toNat) ?_ ?_
  · simpa using h
  · rw [List.Nodup, List.pairwise_iff_getElem]
    intro i j hi hj hij
    simp only [List.length_map] at hi hj
    simp only [List.getElem_map, ne_eq]
    have e1 : d.book[i] = gt d.book i := by simp [gt, List.getD, hi]
    have e2 : d.book[j] = gt d.book j := by simp [gt, List.getD, hj]
    rw [e1, e2]
    have h1 := hd.ent i hi
    have h2 := hd.ent j hj
    have h3 := booked_at (hd.once j hj) (j := i) (by simp; omega)
    rw [gt_takeC hij] at h3
    intro e
    exact h3 (by omega)
  · intro x hx
    obtain ⟨e, he, rfl⟩ := List.mem_map.1 hx
    obtain ⟨i, hi, rfl⟩ := mem_gt he
    have := hd.ent i hi
    omega
theorem wick_num {w : Wick} (h : wickB w = true) : (0 ≤ w.price ∧ w.price ≤ 100) ∧ (0 ≤ w.fine ∧ w.fine ≤ 100) ∧ (0 ≤ w.wait ∧ w.wait ≤ 100) := by
  simp only [wickB, tillB, Bool.and_eq_true, inB, decide_eq_true_eq] at h
  exact ⟨h.1.1.1.2, h.1.1.2, h.1.2⟩
theorem till_ok {w : Wick} {d : Day} (hw : wickB w = true) (hd : DayOk w d) : tillB (tillW w d) = true := by
  have := wick_num hw
  simp only [tillB, Bool.and_eq_true, inB, decide_eq_true_eq]
  exact ⟨⟨⟨hd.tks, this.1⟩, this.2.1⟩, this.2.2⟩
theorem ents_ok {w : Wick} {d : Day} (hd : DayOk w d) : d.book.all (entB (tillW w d)) = true := by
  rw [all_iff]
  intro i hi
  have := hd.ent i hi
  have e : (tillW w d).tk.l = d.tks := rfl
  simp only [entB, isT, inB, Bool.and_eq_true, decide_eq_true_eq, e]
  omega
theorem told_at {w : Wick} {d : Day} (hw : wickB w = true) (hd : DayOk w d) : toldE (tillW w d) d.book = tksE (tksW w d) true := by
  have h1 : tillE (tillW w d) d.book true = 0 := by
    have := ent_len hd
    unfold tillE
    rw [if_neg (by rw [till_ok hw hd]; simp), if_neg (by omega), if_neg (by simp), if_neg (by rw [ents_ok hd]; simp)]
  unfold toldE
  rw [if_neg (by rw [h1]; simp)]; rfl
theorem told_10 {w : Wick} {d : Day} (hd : DayOk w d) : tksE (tksW w d) true = 0 ∨ tksE (tksW w d) true = 10 := by
  unfold tksE
  rw [if_neg (by rw [hd.tks]; simp), if_neg (by simp)]
  split
  · exact .inr rfl
  · exact .inl rfl
theorem check_at {w : Wick} {d : Day} (hw : wickB w = true) (hd : DayOk w d) : ((CheckOut (tillW w d) d.book).2.2 = 0 ∧ (CheckOut (tillW w d) d.book).2.1 = 2 ∧ 0 ≤ (CheckOut (tillW w d) d.book).1 ∧ (CheckOut (tillW w d) d.book).1 < 15) ∨ (CheckOut (tillW w d) d.book).2.2 = 4 ∨ (CheckOut (tillW w d) d.book).2.2 = 10 := by
  unfold CheckOut
  rw [told_at hw hd]
  rcases told_10 hd with h | h
  · rw [if_neg (by rw [h]; simp)]
    cases hb : brokL (tillW w d) d.book d.book.length with
    | nil => exact .inr (.inl rfl)
    | cons i r =>
      left
      have hi : i ∈ brokL (tillW w d) d.book d.book.length := by rw [hb]; simp
      unfold brokL at hi
      rw [List.mem_filter, List.mem_range] at hi
      have h15 := ent_len hd
      refine ⟨rfl, ?_, by show (0 : Int) ≤ (i : Int); omega, by show (i : Int) < 15; omega⟩
      have h2 := of_decide_eq_true hi.2
      show ruleI (tillW w d) d.book i = 2
      unfold ruleI at h2 ⊢
      rw [hd.once i hi.1] at h2 ⊢
      rw [if_neg (by simp)] at h2 ⊢
      split at h2
      · rename_i h3; rw [if_pos h3]
      · exact absurd rfl h2
  · rw [if_pos (by rw [h]; decide)]
    exact .inr (.inr h)
def RepOk (d : Day) (r : Rep) : Prop := (∃ e, e ≠ 0 ∧ r = errD d e) ∨ (r.2.2 = 0 ∧ r.2.1 ≠ [])
theorem rep_ne {s : Bs} (hs : s ≠ []) (l : List Int) : repL s l ≠ [] := by
  unfold repL
  intro e
  exact hs (List.append_eq_nil_iff.1 e).1
theorem ask_rep (d : Day) {s : Bs} (hs : s ≠ []) (r : List Int) (e : Int) : RepOk d (askD d s r e) := by
  unfold askD
  split
  · rename_i h; exact .inl ⟨e, h, rfl⟩
  · exact .inr ⟨rfl, rep_ne hs r⟩
theorem sell_rep (w : Wick) (d : Day) (x : Tick) : RepOk d (sellD w d x) := by
  unfold sellD
  split
  · exact .inl ⟨9, by decide, rfl⟩
  · split
    · exact .inl ⟨2, by decide, rfl⟩
    · exact .inr ⟨rfl, rep_ne (by decide) _⟩
theorem look_rep (w : Wick) (d : Day) (x : Look) : RepOk d (lookD w d x) := by
  unfold lookD
  split
  · exact .inl ⟨9, by decide, rfl⟩
  · split
    · exact .inl ⟨2, by decide, rfl⟩
    · exact .inr ⟨rfl, rep_ne (by decide) _⟩
theorem book_rep (d : Day) (x : Ent) : RepOk d (bookD d x) := by
  unfold bookD
  split
  · exact .inl ⟨2, by decide, rfl⟩
  · split
    · exact .inl ⟨5, by decide, rfl⟩
    · exact .inr ⟨rfl, rep_ne (by decide) _⟩
def askW : List Bs := [turnS, whoseS, freeS, depthS_, firstS, bookS, sumS]
def putW : List Bs := [ticketS, lookS, payS, fineS, backS]
theorem word_in {p : Bs} {n : Nat} (h : wordN p = some n) : p ∈ askW ∨ p ∈ putW := by
  unfold wordN at h
  by_cases h0 : p = ticketS
  · subst h0; exact .inr (by decide)
  rw [if_neg h0] at h
  by_cases h1 : p = lookS
  · subst h1; exact .inr (by decide)
  rw [if_neg h1] at h
  by_cases h2 : p = turnS
  · subst h2; exact .inl (by decide)
  rw [if_neg h2] at h
  by_cases h3 : p = whoseS
  · subst h3; exact .inl (by decide)
  rw [if_neg h3] at h
  by_cases h4 : p = freeS
  · subst h4; exact .inl (by decide)
  rw [if_neg h4] at h
  by_cases h5 : p = depthS_
  · subst h5; exact .inl (by decide)
  rw [if_neg h5] at h
  by_cases h6 : p = firstS
  · subst h6; exact .inl (by decide)
  rw [if_neg h6] at h
  by_cases h7 : p = bookS
  · subst h7; exact .inl (by decide)
  rw [if_neg h7] at h
  by_cases h8 : p = sumS
  · subst h8; exact .inl (by decide)
  rw [if_neg h8] at h
  by_cases h9 : p = payS
  · subst h9; exact .inr (by decide)
  rw [if_neg h9] at h
  by_cases h10 : p = fineS
  · subst h10; exact .inr (by decide)
  rw [if_neg h10] at h
  by_cases h11 : p = backS
  · subst h11; exact .inr (by decide)
  rw [if_neg h11] at h
  cases h
theorem do_ask (w : Wick) (d : Day) (l : List Int) {p : Bs} (h : p ∈ askW) : (doD w d p l).1 = d ∧ RepOk d (doD w d p l) := by
  simp only [askW, List.mem_cons, List.not_mem_nil, or_false] at h
  rcases h with rfl | rfl | rfl | rfl | rfl | rfl | rfl
  · rw [do_turn]; exact ⟨ask_day .., ask_rep d (by decide) _ _⟩
  · rw [do_whose]; exact ⟨ask_day .., ask_rep d (by decide) _ _⟩
  · rw [do_free]; exact ⟨ask_day .., ask_rep d (by decide) _ _⟩
  · rw [do_depth]; exact ⟨ask_day .., ask_rep d (by decide) _ _⟩
  · rw [do_first]; exact ⟨ask_day .., ask_rep d (by decide) _ _⟩
  · rw [do_book]
    split
    · exact ⟨rfl, .inr ⟨rfl, (show bookS ≠ [] by decide)⟩⟩
    · exact ⟨ask_day .., ask_rep d (by decide) _ _⟩
  · rw [do_sum]; exact ⟨ask_day .., ask_rep d (by decide) _ _⟩
theorem do_put (w : Wick) (d : Day) (l : List Int) {p : Bs} (h : p ∈ putW) : RepOk d (doD w d p l) := by
  simp only [putW, List.mem_cons, List.not_mem_nil, or_false] at h
  rcases h with rfl | rfl | rfl | rfl | rfl
  · rw [do_ticket]; exact sell_rep w d _
  · rw [do_look]; exact look_rep w d _
  · rw [do_pay]; exact book_rep d _
  · rw [do_fine]; exact book_rep d _
  · rw [do_back]; exact book_rep d _
theorem line_rep (w : Wick) (d : Day) (s : Bs) : RepOk d (lineD w d s) := by
  unfold lineD
  split
  · exact .inl ⟨3, by decide, rfl⟩
  · split
    · exact .inl ⟨8, by decide, rfl⟩
    · rename_i n hn
      split
      · exact .inl ⟨8, by decide, rfl⟩
      · split
        · exact .inl ⟨8, by decide, rfl⟩
        · rcases word_in hn with h | h
          · exact (do_ask w d _ h).2
          · exact do_put w d _ h
theorem rep_err {d : Day} {r : Rep} (h : RepOk d r) (he : r.2.2 ≠ 0) : r.1 = d ∧ r.2.1 = [] := by
  rcases h with ⟨e, _, rfl⟩ | ⟨h1, _⟩
  · exact ⟨rfl, rfl⟩
  · exact absurd h1 he
theorem lines_app (w : Wick) : ∀ (a b : List Bs) (d : Day), linesD w d (a ++ b) = linesD w (linesD w d a) b
  | [], _, _ => rfl
  | _ :: a, b, d => by rw [List.cons_append, linesD, linesD, lines_app w a b]
theorem reps_app (w : Wick) : ∀ (a : List Bs) (s : Bs) (d : Day), repsD w d (a ++ [s]) = ((repsD w d a).1 ++ [(lineD w (linesD w d a) s).2.1], (repsD w d a).2 + if (lineD w (linesD w d a) s).2.2 ≠ 0 then 1 else 0)
  | [], s, d => by
    show ([(lineD w d s).2.1], (if (lineD w d s).2.2 ≠ 0 then 1 else 0) + 0) = ([] ++ [(lineD w d s).2.1], 0 + if (lineD w d s).2.2 ≠ 0 then 1 else 0)
    rw [Nat.add_zero, Nat.zero_add]; rfl
  | b :: a, s, d => by
    rw [List.cons_append, repsD, reps_app w a s]
    simp only [repsD, linesD, List.cons_append]
    rw [Nat.add_assoc]; rfl
theorem take_gt {α : Type} [Inhabited α] {l : List α} {k : Nat} (h : k < l.length) : l.take (k + 1) = l.take k ++ [gt l k] := by
  have hg : gt l k = l[k] := by simp [gt, List.getD, h]
  rw [List.take_succ_eq_append_getElem h, hg]
theorem lines_take (w : Wick) (d : Day) {l : List Bs} {k : Nat} (h : k < l.length) : linesD w d (l.take (k + 1)) = (lineD w (linesD w d (l.take k)) (gt l k)).1 := by
  rw [take_gt h, lines_app]; rfl
theorem reps_take (w : Wick) (d : Day) {l : List Bs} {k : Nat} (h : k < l.length) : repsD w d (l.take (k + 1)) = ((repsD w d (l.take k)).1 ++ [(lineD w (linesD w d (l.take k)) (gt l k)).2.1], (repsD w d (l.take k)).2 + if (lineD w (linesD w d (l.take k)) (gt l k)).2.2 ≠ 0 then 1 else 0) := by
  rw [take_gt h, reps_app]
theorem reps_len (w : Wick) : ∀ (l : List Bs) (d : Day), (repsD w d l).1.length = l.length ∧ (repsD w d l).2 ≤ l.length
  | [], _ => ⟨rfl, Nat.le_refl _⟩
  | s :: l, d => by
    have := reps_len w l (lineD w d s).1
    simp only [repsD, List.length_cons]
    refine ⟨by rw [this.1], ?_⟩
    split <;> omega
end Go.Ti
namespace Go.Proofs.YtejgofaeafphjaaGreatDoor
open Go.W Go.Ti
def sumU (l : List Int) : Nat := (l.map fun n => 2 ^ n.toNat).sum
def setN (T : Tide) (h : Hts) (p k : Nat) : Nat := sumU (((rng (gt T.sand p).lo (gt T.sand p).hi).take k).filter (sandB T h p))
def setU (T : Tide) (h : Hts) (p : Nat) : Nat := sumU (setL T h p)
theorem every_bit {n j : Nat} (hn : n ≤ 6) (hj : j < n) : (2 ^ n - 1) / 2 ^ j % 2 = 1 := by
  have h : ∀ n, n < 7 → ∀ j, j < n → (2 ^ n - 1) / 2 ^ j % 2 = 1 := by decide
  exact h n (by omega) j hj
theorem setN_succ {T : Tide} {h : Hts} {p k : Nat} (hk : k < ((gt T.sand p).hi - (gt T.sand p).lo + 1).toNat) : setN T h p (k + 1) = setN T h p k + if sandB T h p ((gt T.sand p).lo + (k : Int)) then 2 ^ ((gt T.sand p).lo + (k : Int)).toNat else 0 := by
  have hl : k < (rng (gt T.sand p).lo (gt T.sand p).hi).length := by rw [rng_len]; exact hk
  unfold setN sumU
  rw [take_gt hl, List.filter_append, List.map_append, List.sum_append, gt_rng hk]
  congr 1
  generalize (gt T.sand p).lo + (k : Int) = n
  cases hb : sandB T h p n <;> simp [hb]
theorem setN_lt {T : Tide} {h : Hts} {p : Nat} (hlo : 0 ≤ (gt T.sand p).lo) : ∀ k, k ≤ ((gt T.sand p).hi - (gt T.sand p).lo + 1).toNat → setN T h p k < 2 ^ ((gt T.sand p).lo + (k : Int)).toNat
  | 0, _ => by simp [setN, sumU, Nat.two_pow_pos]
  | k + 1, hk => by
    have ih := setN_lt (h := h) hlo k (by omega)
    rw [setN_succ (by omega)]
    have e : ((gt T.sand p).lo + ((k + 1 : Nat) : Int)).toNat = ((gt T.sand p).lo + (k : Int)).toNat + 1 := by omega
    rw [e, Nat.pow_succ]
    split <;> omega
theorem setN_all (T : Tide) (h : Hts) (p : Nat) : setN T h p ((gt T.sand p).hi - (gt T.sand p).lo + 1).toNat = setU T h p := by
  unfold setN setU setL
  rw [List.take_of_length_le (by rw [rng_len]; exact Nat.le_refl _)]
theorem or_add {a i : Nat} (h : a < 2 ^ i) : a ||| 2 ^ i = a + 2 ^ i := by
  have := Nat.two_pow_add_eq_or_of_lt h 1
  rw [Nat.mul_one] at this
  rw [Nat.or_comm, ← this, Nat.add_comm]
def fitsTo (T : Tide) (h : Hts) (p : Nat) (n : Int) (j : Nat) : Bool := (T.looks.take j).all fun l => !decide (l.place = (p : Int)) || fitB l (standsI T h l.minute) n
theorem fits_succ {T : Tide} {h : Hts} {p : Nat} {n : Int} {j : Nat} (hj : j < T.looks.length) : fitsTo T h p n (j + 1) = (fitsTo T h p n j && (!decide ((gt T.looks j).place = (p : Int)) || fitB (gt T.looks j) (standsI T h (gt T.looks j).minute) n)) := by
  unfold fitsTo
  rw [take_gt hj, List.all_append]
  simp
theorem fits_all (T : Tide) (h : Hts) (p : Nat) (n : Int) : fitsTo T h p n T.looks.length = sandB T h p n := by
  unfold fitsTo sandB
  rw [List.take_length]
end Go.Proofs.YtejgofaeafphjaaGreatDoor
namespace Go.Proofs.YtejgofaeafphjaaGreatDoor
open Go.W Go.Ti
theorem SA362 : StructAt Tryz.prog 362 [] [] := ⟨⟨_, Tryz.zeroValue362, rfl⟩, _, Tryz.underlying362, fun w => by simp []⟩
@[reducible, instance] def ISA362 := SaF.mk SA362
theorem SA366 : StructAt Tryz.prog 366 [.int .i64 0, .int .i64 0] [(0, 0), (0, 2)] := ⟨⟨_, Tryz.zeroValue366, rfl⟩, _, Tryz.underlying366, fun w => by simp [Tryz.sizeOf39, Tryz.sizeOf362]⟩
@[reducible, instance] def ISA366 := SaF.mk SA366
theorem sand_g (T : Tide) (a1 a2 a3 : Option Addr) (n1 n2 n3 c1 c2 c3 : Nat) (D : Imm) (w : World) (hR : TideR D T a1 n1 a2 n2 a3 n3) (qb mb : Nat) (hq : D qb = some (shoO (.slice a1 n1 c1) (.slice a2 n2 c2) (.slice a3 n3 c3) mb)) (hH : Holds D w) (hT : TideOk T) (hdn : DoneD D) (h : Hts) (hh : HtB h) (p : Nat) (hp : p < T.sand.length) (hM0 : Hp) (hMM0 : MapK T mb hM0) (hI0 : Inv D hM0 [mb] w w) : AltersN Tryz.prog 238 [pt qb, htV h, nt p, ut (2 ^ T.looks.length - 1)] w D [mb] (fun v D' hp' => v = ut (setU T h p) ∧ D' = D ∧ MapK T mb hp') := by
  unfold AltersN
  obtain rfl := hR.mark.len'
  obtain rfl := hR.sand.len'
  obtain rfl := hR.look.len'
  obtain ⟨hl1, hl2, hl3⟩ := hR.len
  have hs := narrow_iff.1 (hT.sand p hp)
  refine en Tryz.func238 rfl Tryz.ntmps238 hI0 (g [[1],[1,0,1,2,3]] ?_)
  refine WL.so (SO.box rfl rfl) rfl (zw fun b5 hb5 => ?_)
  refine g [[5],[7,8,5,0,2,3]] ?_
  refine WL.yd (Yd.ix rfl rfl (hR.sand.addr p (by omega))) rfl (g [[1]] ?_)
  refine WL.yd (Yd.l1 rfl ((hR.sand.at p (by omega)).rd 0 rfl)) rfl (g [[4]] ?_)
  refine WC.loop (fun y : Nat × Hp => [(0, pt qb), (2, nt p), (3, ut (2 ^ T.looks.length - 1)), (5, pt b5), (8, ut (setN T h p y.1)), (9, it ((gt T.sand p).lo + ((y.1 : Nat) : Int)))]) (fun y => (b5, .cells (List.toArray (htC h)) 232 (0, 0)) :: y.2) (fun _ => D) (fun y => y.1 ≤ ((gt T.sand p).hi - (gt T.sand p).lo + 1).toNat ∧ MapK T mb y.2) (fun y => ((gt T.sand p).hi - (gt T.sand p).lo + 1).toNat - y.1) (0, hM0) ⟨by omega, hMM0⟩ (fun a w h => at_fr h ⟨rfl, rfl, rfl, rfl, rfl, by show some (it _) = some (it _); congr 2; push_cast; omega, trivial⟩) ?_
  rintro ⟨k, hM⟩ ⟨hk, hMM⟩
  dsimp only at hk hMM
  refine g [[2],[8,0,2,3,5,8,9]] ?_
  refine WL.yd (Yd.ix rfl rfl (hR.sand.addr p (by omega))) rfl (g [[1]] ?_)
  refine WL.yd (Yd.l1 rfl ((hR.sand.at p (by omega)).rd 1 rfl)) rfl (g [[3]] ?_)
  refine WC.cond rfl (fun c33 => ?_) (fun c33 => ?_)
  · try simp only [zq] at c33
    have hkW : k < ((gt T.sand p).hi - (gt T.sand p).lo + 1).toNat := by omega
    refine g [[5],[6,0,2,3,5,8,9],[11,10,0,2,3,5,8,9]] ?_
    refine WC.loop (fun y : Nat × Hp => [(0, pt qb), (2, nt p), (3, ut (2 ^ T.looks.length - 1)), (5, pt b5), (8, ut (setN T h p k)), (9, it ((gt T.sand p).lo + ((k : Nat) : Int))), (10, .bool (fitsTo T h p ((gt T.sand p).lo + ((k : Nat) : Int)) y.1)), (40, .slice a3 T.looks.length c3), (41, nt T.looks.length), (42, nt y.1)]) (fun y => (b5, .cells (List.toArray (htC h)) 232 (0, 0)) :: y.2) (fun _ => D) (fun y => y.1 ≤ T.looks.length ∧ MapK T mb y.2) (fun y => T.looks.length - y.1) (0, hM) ⟨by omega, hMM⟩ (fun a w h => at_fr h ⟨rfl, rfl, rfl, rfl, rfl, rfl, rfl, rfl, rfl, rfl, trivial⟩) ?_
    rintro ⟨j, hM2⟩ ⟨hj, hMM2⟩
    dsimp only at hj hMM2
    obtain ⟨es, clock, F, rfl, hMR, hFK⟩ := hMM2
    refine g [[1],[5,0,2,3,5,8,9,10,40,41,42]] ?_
    refine WC.cond rfl (fun c43 => ?_) (fun c43 => ?_)
    · try simp only [zq] at c43
      have hjl : j < T.looks.length := by omega
      have hlm := (look_iff.1 (hT.look j hjl)).2.1
      have hsn := stands_num hT (h := h) (fun i _ => hh i) hlm
      have hnb : 0 ≤ ((gt T.sand p).lo + ((k : Nat) : Int)) ∧ ((gt T.sand p).lo + ((k : Nat) : Int)) ≤ 60 := by omega
      have hev := every_bit hT.nl hjl
      have hj60 : j ≤ 60 := by have := hT.nl; omega
      refine g [[5],[2,0,2,3,5,8,9,10,40,41,42]] ?_
      refine WL.yd (Yd.ix rfl rfl (hR.look.addr j (by omega))) rfl (WL.yd (Yd.lV [_, _, _, _] rfl ((hR.look.at j (by omega)).rdn 0 4 rfl)) rfl ?_)
      refine WL.so (SO.alloc ZvF.h rfl) rfl (zw fun b12 hb12 => ?_)
      refine g [[5],[8,11,12,0,2,3,5,8,9,10,40,41,42],[6,13,11,12,0,2,3,5,8,9,10,40,41,42]] ?_
      refine WL.part 53 rfl (fun g53 => ?_) (fun g53 => ?_)
      · try simp only [zq] at g53
        refine g [[2]] ?_
        refine WL.ydg rfl (Yd.shrUN rfl rfl (by omega)) rfl (WL.ydg rfl (Yd.andU1 rfl rfl) rfl (g [[4]] ?_))
        refine WC.cond rfl (fun c59 => ?_) (fun c59 => ?_)
        · try simp only [zq] at c59
          refine g [[9,13,12,0,2,3,5,8,9,10,40,41,42],[0,13,12,0,2,3,5,8,9,10,40,41,42]] ?_
          refine WC.drawO [_, _] (pz [1,3,5,7,9,11,13,17,19,21,23,14,24,27,29]) zk zk zX (fun _ hI => Inv.left (l1 := [_, _]) (l2 := [_]) hI) (g [[2]] ?_)
          refine WA.part 66 rfl (fun g66 => ?_) (fun g66 => ?_)
          · try simp only [zq] at g66
            refine g [[7]] ?_
            refine WA.ydg rfl rfl (Yd.nilCheckM rfl (fun w => by kernel_rfl)) rfl (g [[1]] ?_)
            refine WA.sog rfl rfl (SO.altersN (own := [_, _]) (hpc := [(mb, .map es clock)]) (fun _ h => h) (fun h => h) (fun _ h => h) (fun _ h => h) (Enters.func CaF.h rfl) (fun w1 hI => stands_g T a1 a2 a3 _ _ _ c1 c2 c3 D w1 hR qb mb hq hI.imm hT hdn h (gt T.looks j).minute hh hlm es clock F hMR hFK hI)) rfl ?_
            rintro _ _ _ ⟨hp3, _, ⟨rfl, rfl, es2, clock2, F2, rfl, hMR2, hFK2⟩, rfl⟩
            refine ⟨fun _ hI => Inv.left (l1 := [_, _]) hI, ?_⟩
            refine WA.sog rfl rfl (SO.call (Enters.meth CaF.h (fun w => by kernel_rfl) rfl rfl) (fun w hI => fits1_g (gt T.looks j) (standsI T h (gt T.looks j).minute) ((gt T.sand p).lo + ((k : Nat) : Int)) hsn hnb _)) rfl ?_
            rintro _ _ _ ⟨rfl, rfl, rfl⟩
            refine ⟨fun _ hI => Inv.left (l1 := [_, _]) hI, ?_⟩
            refine g [[5],[4,10,0,2,3,5,8,9,40,41,42]] ?_
            first
              | exact WP.again (⟨j + 1, [(mb, .map es2 clock2)]⟩ : Nat × Hp) ⟨by simp only; omega, es2, clock2, F2, rfl, hMR2, hFK2⟩ (by simp only; omega) (fun a w h => at_less h ⟨rfl, rfl, rfl, rfl, rfl, rfl, by show some (Value.bool _) = some (.bool _); congr 2; rw [fits_succ hjl]; simp_all, rfl, rfl, rfl, trivial⟩ (fun _ h => List.mem_cons_of_mem _ h) (fun h => (List.nodup_cons.1 h).2))
              | exact WP.again (⟨j + 1, [(mb, .map es clock)]⟩ : Nat × Hp) ⟨by simp only; omega, es, clock, F, rfl, hMR, hFK⟩ (by simp only; omega) (fun a w h => at_less h ⟨rfl, rfl, rfl, rfl, rfl, rfl, by show some (Value.bool _) = some (.bool _); congr 2; rw [fits_succ hjl]; simp_all, rfl, rfl, rfl, trivial⟩ (fun _ h => List.mem_cons_of_mem _ h) (fun h => (List.nodup_cons.1 h).2))
          try simp only [zq] at g66
          refine g [[16],[4,10,0,2,3,5,8,9,40,41,42]] ?_
          first
            | exact WP.again (⟨j + 1, [(mb, .map es2 clock2)]⟩ : Nat × Hp) ⟨by simp only; omega, es2, clock2, F2, rfl, hMR2, hFK2⟩ (by simp only; omega) (fun a w h => at_less h ⟨rfl, rfl, rfl, rfl, rfl, rfl, by show some (Value.bool _) = some (.bool _); congr 2; rw [fits_succ hjl]; simp_all, rfl, rfl, rfl, trivial⟩ (fun _ h => List.mem_cons_of_mem _ h) (fun h => (List.nodup_cons.1 h).2))
            | exact WP.again (⟨j + 1, [(mb, .map es clock)]⟩ : Nat × Hp) ⟨by simp only; omega, es, clock, F, rfl, hMR, hFK⟩ (by simp only; omega) (fun a w h => at_less h ⟨rfl, rfl, rfl, rfl, rfl, rfl, by show some (Value.bool _) = some (.bool _); congr 2; rw [fits_succ hjl]; simp_all, rfl, rfl, rfl, trivial⟩ (fun _ h => List.mem_cons_of_mem _ h) (fun h => (List.nodup_cons.1 h).2))
        try simp only [zq] at c59
        refine g [[2],[0,13,12,0,2,3,5,8,9,10,40,41,42]] ?_
        refine WC.drawO [_, _] (pz [1,3,5,7,9,11,13,17,19,21,23,14,24,27,29]) zk zk zX (fun _ hI => Inv.left (l1 := [_, _]) (l2 := [_]) hI) (g [[2]] ?_)
        refine WA.part 66 rfl (fun g66 => ?_) (fun g66 => ?_)
        · try simp only [zq] at g66
          refine g [[7]] ?_
          refine WA.ydg rfl rfl (Yd.nilCheckM rfl (fun w => by kernel_rfl)) rfl (g [[1]] ?_)
          refine WA.sog rfl rfl (SO.altersN (own := [_, _]) (hpc := [(mb, .map es clock)]) (fun _ h => h) (fun h => h) (fun _ h => h) (fun _ h => h) (Enters.func CaF.h rfl) (fun w1 hI => stands_g T a1 a2 a3 _ _ _ c1 c2 c3 D w1 hR qb mb hq hI.imm hT hdn h (gt T.looks j).minute hh hlm es clock F hMR hFK hI)) rfl ?_
          rintro _ _ _ ⟨hp3, _, ⟨rfl, rfl, es2, clock2, F2, rfl, hMR2, hFK2⟩, rfl⟩
          refine ⟨fun _ hI => Inv.left (l1 := [_, _]) hI, ?_⟩
          refine WA.sog rfl rfl (SO.call (Enters.meth CaF.h (fun w => by kernel_rfl) rfl rfl) (fun w hI => fits0_g _ _ _)) rfl ?_
          rintro _ _ _ ⟨rfl, rfl, rfl⟩
          refine ⟨fun _ hI => Inv.left (l1 := [_, _]) hI, ?_⟩
          refine g [[5],[4,10,0,2,3,5,8,9,40,41,42]] ?_
          first
            | exact WP.again (⟨j + 1, [(mb, .map es2 clock2)]⟩ : Nat × Hp) ⟨by simp only; omega, es2, clock2, F2, rfl, hMR2, hFK2⟩ (by simp only; omega) (fun a w h => at_less h ⟨rfl, rfl, rfl, rfl, rfl, rfl, by show some (Value.bool _) = some (.bool _); congr 2; rw [fits_succ hjl]; simp_all, rfl, rfl, rfl, trivial⟩ (fun _ h => List.mem_cons_of_mem _ h) (fun h => (List.nodup_cons.1 h).2))
            | exact WP.again (⟨j + 1, [(mb, .map es clock)]⟩ : Nat × Hp) ⟨by simp only; omega, es, clock, F, rfl, hMR, hFK⟩ (by simp only; omega) (fun a w h => at_less h ⟨rfl, rfl, rfl, rfl, rfl, rfl, by show some (Value.bool _) = some (.bool _); congr 2; rw [fits_succ hjl]; simp_all, rfl, rfl, rfl, trivial⟩ (fun _ h => List.mem_cons_of_mem _ h) (fun h => (List.nodup_cons.1 h).2))
        try simp only [zq] at g66
        refine g [[16],[4,10,0,2,3,5,8,9,40,41,42]] ?_
        first
          | exact WP.again (⟨j + 1, [(mb, .map es2 clock2)]⟩ : Nat × Hp) ⟨by simp only; omega, es2, clock2, F2, rfl, hMR2, hFK2⟩ (by simp only; omega) (fun a w h => at_less h ⟨rfl, rfl, rfl, rfl, rfl, rfl, by show some (Value.bool _) = some (.bool _); congr 2; rw [fits_succ hjl]; simp_all, rfl, rfl, rfl, trivial⟩ (fun _ h => List.mem_cons_of_mem _ h) (fun h => (List.nodup_cons.1 h).2))
          | exact WP.again (⟨j + 1, [(mb, .map es clock)]⟩ : Nat × Hp) ⟨by simp only; omega, es, clock, F, rfl, hMR, hFK⟩ (by simp only; omega) (fun a w h => at_less h ⟨rfl, rfl, rfl, rfl, rfl, rfl, by show some (Value.bool _) = some (.bool _); congr 2; rw [fits_succ hjl]; simp_all, rfl, rfl, rfl, trivial⟩ (fun _ h => List.mem_cons_of_mem _ h) (fun h => (List.nodup_cons.1 h).2))
      try simp only [zq] at g53
      refine g [[11],[0,13,12,0,2,3,5,8,9,10,40,41,42]] ?_
      refine WC.drawO [_, _] (pz [1,3,5,7,9,11,13,17,19,21,23,14,24,27,29]) zk zk zX (fun _ hI => Inv.left (l1 := [_, _]) (l2 := [_]) hI) (g [[2]] ?_)
      refine WA.part 66 rfl (fun g66 => ?_) (fun g66 => ?_)
      · try simp only [zq] at g66
        refine g [[7]] ?_
        refine WA.ydg rfl rfl (Yd.nilCheckM rfl (fun w => by kernel_rfl)) rfl (g [[1]] ?_)
        refine WA.sog rfl rfl (SO.altersN (own := [_, _]) (hpc := [(mb, .map es clock)]) (fun _ h => h) (fun h => h) (fun _ h => h) (fun _ h => h) (Enters.func CaF.h rfl) (fun w1 hI => stands_g T a1 a2 a3 _ _ _ c1 c2 c3 D w1 hR qb mb hq hI.imm hT hdn h (gt T.looks j).minute hh hlm es clock F hMR hFK hI)) rfl ?_
        rintro _ _ _ ⟨hp3, _, ⟨rfl, rfl, es2, clock2, F2, rfl, hMR2, hFK2⟩, rfl⟩
        refine ⟨fun _ hI => Inv.left (l1 := [_, _]) hI, ?_⟩
        refine WA.sog rfl rfl (SO.call (Enters.meth CaF.h (fun w => by kernel_rfl) rfl rfl) (fun w hI => fits0_g _ _ _)) rfl ?_
        rintro _ _ _ ⟨rfl, rfl, rfl⟩
        refine ⟨fun _ hI => Inv.left (l1 := [_, _]) hI, ?_⟩
        refine g [[5],[4,10,0,2,3,5,8,9,40,41,42]] ?_
        first
          | exact WP.again (⟨j + 1, [(mb, .map es2 clock2)]⟩ : Nat × Hp) ⟨by simp only; omega, es2, clock2, F2, rfl, hMR2, hFK2⟩ (by simp only; omega) (fun a w h => at_less h ⟨rfl, rfl, rfl, rfl, rfl, rfl, by show some (Value.bool _) = some (.bool _); congr 2; rw [fits_succ hjl]; simp_all, rfl, rfl, rfl, trivial⟩ (fun _ h => List.mem_cons_of_mem _ h) (fun h => (List.nodup_cons.1 h).2))
          | exact WP.again (⟨j + 1, [(mb, .map es clock)]⟩ : Nat × Hp) ⟨by simp only; omega, es, clock, F, rfl, hMR, hFK⟩ (by simp only; omega) (fun a w h => at_less h ⟨rfl, rfl, rfl, rfl, rfl, rfl, by show some (Value.bool _) = some (.bool _); congr 2; rw [fits_succ hjl]; simp_all, rfl, rfl, rfl, trivial⟩ (fun _ h => List.mem_cons_of_mem _ h) (fun h => (List.nodup_cons.1 h).2))
      try simp only [zq] at g66
      refine g [[16],[4,10,0,2,3,5,8,9,40,41,42]] ?_
      first
        | exact WP.again (⟨j + 1, [(mb, .map es2 clock2)]⟩ : Nat × Hp) ⟨by simp only; omega, es2, clock2, F2, rfl, hMR2, hFK2⟩ (by simp only; omega) (fun a w h => at_less h ⟨rfl, rfl, rfl, rfl, rfl, rfl, by show some (Value.bool _) = some (.bool _); congr 2; rw [fits_succ hjl]; simp_all, rfl, rfl, rfl, trivial⟩ (fun _ h => List.mem_cons_of_mem _ h) (fun h => (List.nodup_cons.1 h).2))
        | exact WP.again (⟨j + 1, [(mb, .map es clock)]⟩ : Nat × Hp) ⟨by simp only; omega, es, clock, F, rfl, hMR, hFK⟩ (by simp only; omega) (fun a w h => at_less h ⟨rfl, rfl, rfl, rfl, rfl, rfl, by show some (Value.bool _) = some (.bool _); congr 2; rw [fits_succ hjl]; simp_all, rfl, rfl, rfl, trivial⟩ (fun _ h => List.mem_cons_of_mem _ h) (fun h => (List.nodup_cons.1 h).2))
    try simp only [zq] at c43
    obtain rfl : j = T.looks.length := by omega
    refine g [[6]] ?_
    have hMM2 : MapK T mb [(mb, .map es clock)] := ⟨es, clock, F, rfl, hMR, hFK⟩
    refine g [[4,0,2,3,5,8,9,10]] ?_
    refine WC.cond rfl (fun c80 => ?_) (fun c80 => ?_)
    · try simp only [zq] at c80
      refine g [[3,0,2,3,5,8,9]] ?_
      refine WL.know 82 (nt ((gt T.sand p).lo + ((k : Nat) : Int)).toNat) rfl (by show it _ = it _; congr 1; omega) ?_
      have hs63 : setN T h p k < 2 ^ 63 := Nat.lt_trans (setN_lt hs.1.1 k (by omega)) (Nat.pow_lt_pow_right (by omega) (by omega))
      have hn63 : 2 ^ ((gt T.sand p).lo + ((k : Nat) : Int)).toNat < 2 ^ 63 := Nat.pow_lt_pow_right (by omega) (by omega)
      refine WL.yd (Yd.shlU rfl rfl (by omega)) rfl (WL.yd (Yd.orU hs63 hn63 rfl rfl) rfl (g [[4],[5,8,0,2,3,5,9]] ?_))
      exact WP.again (⟨k + 1, [(mb, .map es clock)]⟩ : Nat × Hp) ⟨by simp only; omega, hMM2⟩ (by simp only; omega) (fun a w h => at_fr h ⟨rfl, rfl, rfl, rfl, by show some (ut _) = some (ut _); congr 2; rw [setN_succ hkW, ← fits_all]; first | (rw [c80, if_pos rfl, or_add (setN_lt hs.1.1 k (by omega))]) | (rw [c80]; rfl), by show some (it _) = some (it _); congr 2; push_cast; omega, trivial⟩)
    try simp only [zq] at c80
    refine g [[3],[5,0,2,3,5,8,9]] ?_
    exact WP.again (⟨k + 1, [(mb, .map es clock)]⟩ : Nat × Hp) ⟨by simp only; omega, hMM2⟩ (by simp only; omega) (fun a w h => at_fr h ⟨rfl, rfl, rfl, rfl, by show some (ut _) = some (ut _); congr 2; rw [setN_succ hkW, ← fits_all]; first | (rw [c80, if_pos rfl, or_add (setN_lt hs.1.1 k (by omega))]) | (rw [c80]; rfl), by show some (it _) = some (it _); congr 2; push_cast; omega, trivial⟩)
  try simp only [zq] at c33
  obtain rfl : k = ((gt T.sand p).hi - (gt T.sand p).lo + 1).toNat := by omega
  refine g [[6],[6,8]] ?_
  refine WP.ret1 rfl rfl rfl (RV.tmp rfl) (fun w1 hI => ⟨_, D, hM, rfl, DExt.refl _ _, hI.drop 1, by rw [← setN_all], rfl, hMM⟩)
end Go.Proofs.YtejgofaeafphjaaGreatDoor
