import Derived.Test.YtidjdonppfegiaaXA
import Derived.Test.YtidjdonppfegiaaRows
import Derived.Test.YtidjdonppfegiaaXB
set_option linter.unusedSimpArgs false
set_option linter.unusedVariables false
set_option linter.all false
/- Plain words on dips: no program in sight. -/
namespace Go.Dp
open Go.W (gt gt_of)

structure Sp where
  lo : Int
  hi : Int
  deriving DecidableEq, Inhabited
structure Dipper where
  hands : Sp
  hours : Int
  deriving DecidableEq, Inhabited
structure Bather where
  needs : Sp
  hours : Int
  deriving DecidableEq, Inhabited
structure Plc where
  hour : Int
  dipper : Int
  deriving DecidableEq, Inhabited
structure Dips where
  hours : Int
  dippers : List Dipper
  bathers : List Bather
  deriving Inhabited

def inB (n lo hi : Int) : Bool := decide (lo ≤ n ∧ n ≤ hi)
def hasB (s n : Int) : Bool := decide (s / ((2 ^ n.toNat : Nat) : Int) % 2 = 1)
def spanB (s : Sp) (lo hi : Int) : Bool := decide (lo ≤ s.lo ∧ s.lo ≤ s.hi ∧ s.hi ≤ hi)
def setB (h s : Int) : Bool := inB s 0 (((2 ^ h.toNat : Nat) : Int) - 1)
def dipperB (h : Int) (x : Dipper) : Bool := spanB x.hands 0 8 && setB h x.hours
def batherB (h : Int) (x : Bather) : Bool := spanB x.needs 1 4 && setB h x.hours
def dipsB (d : Dips) : Bool := inB d.hours 1 4 && decide (d.dippers.length ≤ 3) && decide (d.bathers.length ≤ 5) && d.dippers.all (dipperB d.hours) && d.bathers.all (batherB d.hours)
def placeB (d : Dips) (x : Plc) : Bool := inB x.hour 0 (IntKind.i64.wrap (d.hours - 1)) && inB x.dipper 0 ((d.dippers.length : Int) - 1)
def listB (d : Dips) (plan : List Plc) : Bool := plan.all (placeB d) && decide (plan.length = d.bathers.length)


theorem gt_mem {α : Type} [Inhabited α] {l : List α} {i : Nat} (h : i < l.length) : gt l i ∈ l := by
  have : gt l i = l[i] := by simp [gt, List.getD, h]
  rw [this]; exact List.getElem_mem h
theorem all_iff {α : Type} [Inhabited α] {l : List α} {p : α → Bool} : l.all p = true ↔ ∀ i, i < l.length → p (gt l i) = true := by
  rw [List.all_eq_true]
  constructor
  · intro h i hi; exact h _ (gt_mem hi)
  · intro h x hx
    obtain ⟨i, hi, rfl⟩ := List.getElem_of_mem hx
    have := h i hi
    simpa [gt, List.getD, hi] using this
theorem ext_round {p : Nat → Prop} {k : Nat} (h : ∀ i, i < k → p i) (hk : p k) : ∀ i, i < k + 1 → p i := fun i hi => by
  rcases Nat.lt_or_ge i k with h' | h'
  · exact h i h'
  · have : i = k := by omega
    rw [this]; exact hk
theorem dipsB_iff (d : Dips) : dipsB d = true ↔ inB d.hours 1 4 = true ∧ d.dippers.length ≤ 3 ∧ d.bathers.length ≤ 5 ∧ (∀ i, i < d.dippers.length → dipperB d.hours (gt d.dippers i) = true) ∧ (∀ i, i < d.bathers.length → batherB d.hours (gt d.bathers i) = true) := by
  simp only [dipsB, Bool.and_eq_true, decide_eq_true_eq, all_iff, and_assoc]
theorem listB_iff (d : Dips) (l : List Plc) : listB d l = true ↔ (∀ i, i < l.length → placeB d (gt l i) = true) ∧ l.length = d.bathers.length := by
  simp only [listB, Bool.and_eq_true, decide_eq_true_eq, all_iff]

/-- what is left to a dipper after the first k bathers who have the same place -/
def hands0 (best : Bool) (x : Dipper) : Int := if best then x.hands.hi else x.hands.lo
def need0 (best : Bool) (x : Bather) : Int := if best then x.needs.lo else x.needs.hi
def leftR (d : Dips) (plan : List Plc) (best : Bool) (x : Plc) : Nat → Int
  | 0 => hands0 best (gt d.dippers x.dipper.toNat)
  | k + 1 => leftR d plan best x k - (if gt plan k = x then need0 best (gt d.bathers k) else 0)
def brokenR (d : Dips) (plan : List Plc) (i : Nat) (best : Bool) : Int :=
  if hasB (gt d.bathers i).hours (gt plan i).hour = false ∨ hasB (gt d.dippers (gt plan i).dipper.toNat).hours (gt plan i).hour = false then 1
  else if leftR d plan best (gt plan i) (i + 1) < 0 then 2 else 0
def checkR (d : Dips) (valid : Bool) : Int := if dipsB d = false then 1 else if valid = false then 2 else 0
def fineR (d : Dips) (plan : List Plc) (best : Bool) : Bool := decide (∀ i, i < plan.length → brokenR d plan i best = 0)
/-- the first bather who breaks a rule, from i on -/
def firstR (d : Dips) (plan : List Plc) (best : Bool) : Nat → Nat → Int × Int
  | _, 0 => (0, 0)
  | i, n + 1 => if brokenR d plan i best ≠ 0 then ((i : Int), brokenR d plan i best) else firstR d plan best (i + 1) n
def CheckR (d : Dips) (plan : List Plc) : Int × Int × Int :=
  if checkR d (listB d plan) ≠ 0 then (0, 0, checkR d (listB d plan))
  else if (firstR d plan false 0 plan.length).2 ≠ 0 then ((firstR d plan false 0 plan.length).1, (firstR d plan false 0 plan.length).2, 0) else (0, 0, 4)
def RightR (d : Dips) (plan : List Plc) : Int × Int :=
  if checkR d (listB d plan) ≠ 0 then (0, checkR d (listB d plan))
  else if fineR d plan false then (2, 0) else if fineR d plan true = false then (0, 0) else (1, 0)

theorem dips_num {d : Dips} (h : dipsB d = true) : (1 ≤ d.hours ∧ d.hours ≤ 4) ∧ d.dippers.length ≤ 3 ∧ d.bathers.length ≤ 5 ∧
    (∀ i, i < d.dippers.length → 0 ≤ (gt d.dippers i).hands.lo ∧ (gt d.dippers i).hands.lo ≤ (gt d.dippers i).hands.hi ∧ (gt d.dippers i).hands.hi ≤ 8 ∧ 0 ≤ (gt d.dippers i).hours ∧ (gt d.dippers i).hours ≤ 15) ∧
    (∀ i, i < d.bathers.length → 1 ≤ (gt d.bathers i).needs.lo ∧ (gt d.bathers i).needs.lo ≤ (gt d.bathers i).needs.hi ∧ (gt d.bathers i).needs.hi ≤ 4 ∧ 0 ≤ (gt d.bathers i).hours ∧ (gt d.bathers i).hours ≤ 15) := by
  obtain ⟨h1, h2, h3, h4, h5⟩ := (dipsB_iff d).1 h
  have hh : 1 ≤ d.hours ∧ d.hours ≤ 4 := by simpa [inB] using h1
  have hp1 : ((2 ^ d.hours.toNat : Nat) : Int) ≤ ((2 ^ 4 : Nat) : Int) := by exact_mod_cast Nat.pow_le_pow_right (by omega) (by omega)
  have hp2 : ((2 ^ 4 : Nat) : Int) = 16 := rfl
  refine ⟨hh, h2, h3, fun i hi => ?_, fun i hi => ?_⟩
  · have := h4 i hi
    simp only [dipperB, setB, spanB, inB, Bool.and_eq_true, decide_eq_true_eq] at this
    omega
  · have := h5 i hi
    simp only [batherB, setB, spanB, inB, Bool.and_eq_true, decide_eq_true_eq] at this
    omega

/-- all places of a list are places -/
def PlOk (d : Dips) (l : List Plc) : Prop := ∀ j, j < l.length → 0 ≤ (gt l j).hour ∧ (gt l j).hour < d.hours ∧ 0 ≤ (gt l j).dipper ∧ (gt l j).dipper < d.dippers.length
theorem wrap_hours {d : Dips} (h : dipsB d = true) : IntKind.i64.wrap (d.hours - 1) = d.hours - 1 := by
  have := (dips_num h).1
  exact IntWalk.i64_in _ (by omega)
theorem plok_of {d : Dips} {l : List Plc} (h : dipsB d = true) (hl : listB d l = true) : PlOk d l ∧ l.length = d.bathers.length := by
  obtain ⟨h1, h2⟩ := (listB_iff d l).1 hl
  refine ⟨fun j hj => ?_, h2⟩
  have := h1 j hj
  simp only [placeB, inB, wrap_hours h, Bool.and_eq_true, decide_eq_true_eq] at this
  omega
theorem list_of {d : Dips} {l : List Plc} (h : dipsB d = true) (hp : PlOk d l) (hl : l.length = d.bathers.length) : listB d l = true := by
  refine (listB_iff d l).2 ⟨fun j hj => ?_, hl⟩
  have := hp j hj
  simp only [placeB, inB, wrap_hours h, Bool.and_eq_true, decide_eq_true_eq]
  omega
theorem need_num {d : Dips} (h : dipsB d = true) (best : Bool) {i : Nat} (hi : i < d.bathers.length) : 1 ≤ need0 best (gt d.bathers i) ∧ need0 best (gt d.bathers i) ≤ 4 := by
  have := (dips_num h).2.2.2.2 i hi
  unfold need0; split <;> omega
theorem leftR_num {d : Dips} (h : dipsB d = true) (plan : List Plc) (best : Bool) {x : Plc} (hx : x.dipper.toNat < d.dippers.length) : ∀ k, k ≤ d.bathers.length → -4 * (k : Int) ≤ leftR d plan best x k ∧ leftR d plan best x k ≤ 8 := by
  intro k
  induction k with
  | zero =>
    intro _
    have := (dips_num h).2.2.2.1 _ hx
    simp only [leftR, hands0]; split <;> omega
  | succ k ih =>
    intro hk
    have h1 := ih (by omega)
    have h2 := need_num h best (i := k) (by omega)
    simp only [leftR]; split <;> omega
theorem brokenR_num (d : Dips) (plan : List Plc) (i : Nat) (best : Bool) : 0 ≤ brokenR d plan i best ∧ brokenR d plan i best ≤ 2 := by
  unfold brokenR; split
  · omega
  · split <;> omega
theorem firstR_step (d : Dips) (plan : List Plc) (best : Bool) (i n : Nat) (h : brokenR d plan i best = 0) : firstR d plan best i (n + 1) = firstR d plan best (i + 1) n := by
  simp [firstR, h]
/-- hands in an hour, of the first k dippers -/
def handsR (d : Dips) (hour : Int) : Nat → Sp
  | 0 => ⟨0, 0⟩
  | k + 1 => if hasB (gt d.dippers k).hours hour then ⟨(handsR d hour k).lo + (gt d.dippers k).hands.lo, (handsR d hour k).hi + (gt d.dippers k).hands.hi⟩ else handsR d hour k
def hourB (d : Dips) (hour : Int) : Bool := inB hour 0 (IntKind.i64.wrap (d.hours - 1))
def HandsR (d : Dips) (hour : Int) : Sp × Int :=
  if checkR d (hourB d hour) ≠ 0 then (⟨0, 0⟩, checkR d (hourB d hour)) else (handsR d hour d.dippers.length, 0)
theorem handsR_num {d : Dips} (h : dipsB d = true) (hour : Int) : ∀ k, k ≤ d.dippers.length → 0 ≤ (handsR d hour k).lo ∧ (handsR d hour k).lo ≤ 8 * (k : Int) ∧ 0 ≤ (handsR d hour k).hi ∧ (handsR d hour k).hi ≤ 8 * (k : Int) := by
  intro k
  induction k with
  | zero => intro _; simp [handsR]
  | succ k ih =>
    intro hk
    have h1 := ih (by omega)
    have h2 := (dips_num h).2.2.2.1 k (by omega)
    simp only [handsR]; split
    · refine ⟨?_, ?_, ?_, ?_⟩ <;> simp only <;> omega
    · omega
def sameB (a b : List Plc) : Bool := decide (a = b)
theorem same_iff {a b : List Plc} : a = b ↔ a.length = b.length ∧ ∀ i, i < a.length → gt a i = gt b i := by
  constructor
  · rintro rfl; exact ⟨rfl, fun _ _ => rfl⟩
  · rintro ⟨h1, h2⟩
    apply List.ext_getElem h1
    intro i hi hj
    have := h2 i hi
    simpa [gt, List.getD, hi, hj] using this
theorem checkR_zero {d : Dips} {v : Bool} (h : checkR d v = 0) : dipsB d = true ∧ v = true := by
  unfold checkR at h
  cases hd : dipsB d <;> cases v <;> simp [hd] at h ⊢
end Go.Dp
/- The sort of the sets, step for step, in plain words. -/
namespace Go.Dp
open Go.W (gt gt_of)

def whl {σ : Type} (c : σ → Bool) (s : σ → Option σ) : Nat → σ → Option σ
  | 0, x => if c x then none else some x
  | n + 1, x => if c x then (s x).bind (whl c s n) else some x
theorem whl_true {σ : Type} {c : σ → Bool} {s : σ → Option σ} {n : Nat} {x r : σ} (h : whl c s n x = some r) (hc : c x = true) : ∃ m y, n = m + 1 ∧ s x = some y ∧ whl c s m y = some r := by
  cases n with
  | zero => simp [whl, hc] at h
  | succ m =>
    simp only [whl, hc, if_true] at h
    cases hs : s x with
    | none => rw [hs] at h; cases h
    | some y => rw [hs] at h; exact ⟨m, y, rfl, rfl, h⟩
theorem whl_false {σ : Type} {c : σ → Bool} {s : σ → Option σ} {n : Nat} {x r : σ} (h : whl c s n x = some r) (hc : c x = false) : r = x := by
  cases n <;> simp [whl, hc] at h <;> exact h.symm

/-- how many bits -/
def pop (n : Nat) : Nat := n % 2 + n / 2 % 2 + n / 4 % 2 + n / 8 % 2 + n / 16 % 2
/-- is the element at i before the one at j? -/
def lessAt (l : List Nat) (i j : Nat) : Option Bool := if i < l.length ∧ j < l.length ∧ gt l i < 32 ∧ gt l j < 32 then some (decide (pop (gt l i) < pop (gt l j))) else none
def swp (l : List Nat) (i j : Nat) : Option (List Nat) := if i < l.length ∧ j < l.length then some ((l.set i (gt l j)).set j (gt l i)) else none

def F := 40
/-- insertion: the element at j sinks -/
def insIn (a : Nat) (x : Nat × List Nat) : Option (Nat × List Nat) :=
  whl (fun x => decide (a < x.1) && (lessAt x.2 x.1 (x.1 - 1)).getD false) (fun x => (swp x.2 x.1 (x.1 - 1)).map fun l => (x.1 - 1, l)) F x
def insS (a b : Nat) (l : List Nat) : Option (List Nat) :=
  (whl (fun x : Nat × List Nat => decide (x.1 < b)) (fun x => (insIn a (x.1, x.2)).map fun y => (x.1 + 1, y.2)) F (a + 1, l)).map (·.2)
def swapR (a b n : Nat) (l : List Nat) : Option (List Nat) :=
  (whl (fun x : Nat × List Nat => decide (x.1 < n)) (fun x => (swp x.2 (a + x.1) (b + x.1)).map fun l => (x.1 + 1, l)) F (0, l)).map (·.2)
def rotS (a m b : Nat) (l : List Nat) : Option (List Nat) :=
  if a ≤ m ∧ m ≤ b then
    (whl (fun x : Nat × Nat × List Nat => decide (x.1 ≠ x.2.1)) (fun x => if x.1 ≤ m then (if x.2.1 < x.1 then (swapR (m - x.1) m x.2.1 x.2.2).map fun l => (x.1 - x.2.1, x.2.1, l) else (swapR (m - x.1) (m + x.2.1 - x.1) x.1 x.2.2).map fun l => (x.1, x.2.1 - x.1, l)) else none) F (m - a, b - m, l)).bind
      fun x => if x.1 ≤ m then swapR (m - x.1) m x.1 x.2.2 else none
  else none
/-- where the halving ends: p says of a place whether to go on behind it -/
def halve (p : Nat → Option Bool) (i j : Nat) : Option Nat :=
  (whl (fun x : Nat × Nat => decide (x.1 < x.2)) (fun x => (p ((x.1 + x.2) / 2)).map fun b => if b then ((x.1 + x.2) / 2 + 1, x.2) else (x.1, (x.1 + x.2) / 2)) F (i, j)).map (·.1)
def upS (k i : Nat) (l : List Nat) : Option (List Nat) :=
  (whl (fun x : Nat × List Nat => decide ((x.1 : Int) < (i : Int) - 1)) (fun x => (swp x.2 x.1 (x.1 + 1)).map fun l => (x.1 + 1, l)) F (k, l)).map (·.2)
def downS (k i : Nat) (l : List Nat) : Option (List Nat) :=
  (whl (fun x : Nat × List Nat => decide (i < x.1)) (fun x => (swp x.2 x.1 (x.1 - 1)).map fun l => (x.1 - 1, l)) F (k, l)).map (·.2)
def symM : Nat → Nat → Nat → Nat → List Nat → Option (List Nat)
  | 0, _, _, _, _ => none
  | f + 1, a, m, b, l =>
    if ¬ (a < m ∧ m < b ∧ b ≤ 1000) then none
    else if m - a = 1 then (halve (fun h => lessAt l h a) m b).bind fun i => upS a i l
    else if b - m = 1 then (halve (fun h => (lessAt l m h).map (!·)) a m).bind fun i => downS m i l
    else
      let mid := (a + b) / 2
      let n := mid + m
      (if mid < m then (if b ≤ n then some (n - b, mid) else none) else some (a, m)).bind fun sr =>
      (halve (fun c => if c + 1 ≤ n then (lessAt l (n - 1 - c) c).map (!·) else none) sr.1 sr.2).bind fun st =>
      if n < st then none else
      (if st < m ∧ m < n - st then rotS st m (n - st) l else some l).bind fun l =>
      (if a < st ∧ st < mid then symM f a st mid l else some l).bind fun l =>
      (if mid < n - st ∧ n - st < b then symM f mid (n - st) b l else some l)
def sortS (l : List Nat) : Option (List Nat) :=
  if l.length ≤ 19 then insS 0 l.length l
  else if l.length = 32 then (insS 0 20 l).bind fun l => (insS 20 32 l).bind fun l => symM 10 0 20 32 l
  else none
def setsL (k : Nat) : List Nat := (sortS (List.range (2 ^ k))).getD []
theorem sorted5 : sortS (List.range 32) = some (setsL 5) := by decide
end Go.Dp
/- How dips lie in memory. -/
namespace Go.Proofs.Ytidjdonppfegiaa
open Go.W Go.Dp

def dipperC (x : Dipper) : List Value := [it x.hands.lo, it x.hands.hi, it x.hours]
def batherC (x : Bather) : List Value := [it x.needs.lo, it x.needs.hi, it x.hours]
def placeC (x : Plc) : List Value := [it x.hour, it x.dipper]
structure DipsR (D : Imm) (d : Dips) (a1 : Option Addr) (n1 : Nat) (a2 : Option Addr) (n2 : Nat) : Prop where
  dip : SlL D 3 (d.dippers.map dipperC) a1 n1
  bath : SlL D 3 (d.bathers.map batherC) a2 n2
  len1 : n1 ≤ 1000
  len2 : n2 ≤ 1000
structure PlanR (D : Imm) (l : List Plc) (a : Option Addr) (n : Nat) : Prop where
  pl : SlL D 2 (l.map placeC) a n
  len : n ≤ 1000
theorem eq61 (a b c d : Int) : ∀ w, (Op.equalIn 10000 61 (.agg #[.int .i64 a, .int .i64 b]) (.agg #[.int .i64 c, .int .i64 d])).run Try.prog w = .ok (decide ((⟨a, b⟩ : Plc) = ⟨c, d⟩)) w := by
  intro w
  have h1 : (Op.equalIn 10000 61 (.agg #[.int .i64 a, .int .i64 b]) (.agg #[.int .i64 c, .int .i64 d])).run Try.prog w = .ok (a == c && b == d) w := by
    simp [go_sem, Op.eqFields]
    by_cases h : a = c <;> by_cases h' : b = d <;> simp [h, h']
  have h2 : (a == c && b == d) = decide ((⟨a, b⟩ : Plc) = ⟨c, d⟩) := by
    rw [Bool.eq_iff_iff]; simp only [Bool.and_eq_true, beq_iff_eq, decide_eq_true_eq, Plc.mk.injEq]
  rw [h1, h2]
end Go.Proofs.Ytidjdonppfegiaa
/- The hands of a beach: an array of arrays. -/
namespace Go.Proofs.Ytidjdonppfegiaa
open Go.W Go.Dp

abbrev HM := Nat → Nat → Int
def handsC (h : HM) : List Value := (List.range 12).map fun j => it (h (j / 3) (j % 3))
theorem handsC_len (h : HM) : (handsC h).length = 12 := rfl
def upd (h : HM) (a b : Nat) (v : Int) : HM := fun x y => if x = a ∧ y = b then v else h x y
theorem handsC_eq (h : HM) : handsC h = [it (h 0 0), it (h 0 1), it (h 0 2), it (h 1 0), it (h 1 1), it (h 1 2), it (h 2 0), it (h 2 1), it (h 2 2), it (h 3 0), it (h 3 1), it (h 3 2)] := rfl
theorem splice_hands (h : HM) (a b : Nat) (v : Int) (ha : a < 4) (hb : b < 3) : splice (handsC h) (0 + a * 3 + b * 1) [it v] = handsC (upd h a b v) := by
  have h1 : a = 0 ∨ a = 1 ∨ a = 2 ∨ a = 3 := by omega
  have h2 : b = 0 ∨ b = 1 ∨ b = 2 := by omega
  rcases h1 with rfl | rfl | rfl | rfl <;> rcases h2 with rfl | rfl | rfl <;> simp [handsC_eq, splice, upd]
theorem hands_at (h : HM) (a b : Nat) (ha : a < 4) (hb : b < 3) : (handsC h)[0 + a * 3 + b * 1]? = some (it (h a b)) := by
  have h1 : a = 0 ∨ a = 1 ∨ a = 2 ∨ a = 3 := by omega
  have h2 : b = 0 ∨ b = 1 ∨ b = 2 := by omega
  rcases h1 with rfl | rfl | rfl | rfl <;> rcases h2 with rfl | rfl | rfl <;> rfl
theorem splice_len (cs : List Value) (off : Nat) (v : Value) (h : off < cs.length) : (splice cs off [v]).length = cs.length := by
  simp [splice]; omega
theorem upd_upd (h : HM) (a b : Nat) (v u : Int) : upd (upd h a b v) a b u = upd h a b u := by
  funext x y; unfold upd; split <;> rfl
theorem handsC_congr {h h' : HM} (e : ∀ a b, a < 4 → b < 3 → h a b = h' a b) : handsC h = handsC h' := by
  simp only [handsC_eq]
  rw [e 0 0 (by omega) (by omega), e 0 1 (by omega) (by omega), e 0 2 (by omega) (by omega), e 1 0 (by omega) (by omega), e 1 1 (by omega) (by omega), e 1 2 (by omega) (by omega),
    e 2 0 (by omega) (by omega), e 2 1 (by omega) (by omega), e 2 2 (by omega) (by omega), e 3 0 (by omega) (by omega), e 3 1 (by omega) (by omega), e 3 2 (by omega) (by omega)]

/-- 's >> n & 1', as the machine reckons it -/
def bitN (s n : Int) : Int := s.fdiv (2 ^ (min n.toNat 64)) % 2
theorem bit_has {s n : Int} (hs : 0 ≤ s) (hn : 0 ≤ n) (h64 : n ≤ 60) : hasB s n = decide (bitN s n = 1) := by
  unfold hasB bitN
  rw [show min n.toNat 64 = n.toNat by omega, Int.fdiv_eq_ediv_of_nonneg _ (Int.pow_nonneg (by omega))]
  have e : ((2 ^ n.toNat : Nat) : Int) = 2 ^ n.toNat := by simp
  rw [e]
theorem bit_01 (s n : Int) : bitN s n = 0 ∨ bitN s n = 1 := by unfold bitN; omega

def beginH (d : Dips) (best : Bool) : HM := fun hour i => if i < d.dippers.length then (if bitN (gt d.dippers i).hours hour = 1 then hands0 best (gt d.dippers i) else -1) else 0
/-- what is filled in after k hours, and of the next one j dippers -/
def beginTo (d : Dips) (best : Bool) (k j : Nat) : HM := fun hour i => if hour < k ∨ (hour = k ∧ i < j) then beginH d best hour i else 0
theorem beginTo_step (d : Dips) (best : Bool) (k j : Nat) : upd (beginTo d best k j) k j (beginH d best k j) = beginTo d best k (j + 1) := by
  funext x y
  unfold upd beginTo
  by_cases h : x = k ∧ y = j
  · rw [if_pos h, h.1, h.2, if_pos (.inr ⟨rfl, by omega⟩)]
  · rw [if_neg h]
    by_cases h1 : x < k ∨ (x = k ∧ y < j)
    · rw [if_pos h1, if_pos (by omega)]
    · rw [if_neg h1, if_neg (by omega)]
theorem beginTo_next (d : Dips) (best : Bool) (k : Nat) : beginTo d best k d.dippers.length = beginTo d best (k + 1) 0 := by
  funext x y
  unfold beginTo
  by_cases h : x < k ∨ (x = k ∧ y < d.dippers.length)
  · rw [if_pos h, if_pos (by omega)]
  · rw [if_neg h]
    by_cases h2 : x = k
    · rw [if_pos (by omega)]
      unfold beginH
      rw [if_neg (by omega)]
    · rw [if_neg (by omega)]
theorem beginTo_zero (d : Dips) (best : Bool) : beginTo d best 0 0 = fun _ _ => 0 := by
  funext x y; unfold beginTo; rw [if_neg (by omega)]
theorem beginTo_all (d : Dips) (best : Bool) : handsC (beginTo d best 4 0) = handsC (beginH d best) :=
  handsC_congr fun a b ha hb => by unfold beginTo; rw [if_pos (by omega)]

/-- what is left after the first k places of a plan -/
def hAt (d : Dips) (plan : List Plc) (best : Bool) : Nat → HM
  | 0 => beginH d best
  | k + 1 => upd (hAt d plan best k) (gt plan k).hour.toNat (gt plan k).dipper.toNat (hAt d plan best k (gt plan k).hour.toNat (gt plan k).dipper.toNat - need0 best (gt d.bathers k))
theorem beginH_num {d : Dips} (h : dipsB d = true) (best : Bool) (a b : Nat) : -1 ≤ beginH d best a b ∧ beginH d best a b ≤ 8 := by
  unfold beginH
  split
  · rename_i hb
    have := (dips_num h).2.2.2.1 b hb
    split
    · unfold hands0; split <;> omega
    · omega
  · omega
theorem hAt_num {d : Dips} (h : dipsB d = true) (plan : List Plc) (best : Bool) : ∀ k, k ≤ d.bathers.length → ∀ a b, -1 - 4 * (k : Int) ≤ hAt d plan best k a b ∧ hAt d plan best k a b ≤ 8 := by
  intro k
  induction k with
  | zero => intro _ a b; have := beginH_num h best a b; simp only [hAt]; omega
  | succ k ih =>
    intro hk a b
    have h2 := need_num h best (i := k) (by omega)
    have h3 := ih (by omega) (gt plan k).hour.toNat (gt plan k).dipper.toNat
    have h4 := ih (by omega) a b
    simp only [hAt, upd]
    split <;> omega
/-- where the dipper is there the same is left as the document says -/
theorem hAt_left {d : Dips} (plan : List Plc) (best : Bool) (hq : PlOk d plan) {x : Plc} (h0 : 0 ≤ x.hour) (h1 : 0 ≤ x.dipper) (hb : bitN (gt d.dippers x.dipper.toNat).hours x.hour = 1) (hx : x.dipper.toNat < d.dippers.length) :
    ∀ k, k ≤ plan.length → hAt d plan best k x.hour.toNat x.dipper.toNat = leftR d plan best x k := by
  intro k
  induction k with
  | zero =>
    intro _
    simp only [hAt, leftR, beginH]
    rw [if_pos hx, if_pos (by rw [Int.toNat_of_nonneg h0]; exact hb)]
  | succ k ih =>
    intro hk
    have h2 := ih (by omega)
    have h3 := hq k (by omega)
    simp only [hAt, leftR, upd]
    by_cases e : gt plan k = x
    · rw [if_pos e, if_pos (by rw [e]; exact ⟨rfl, rfl⟩), e, h2]
    · rw [if_neg e, if_neg (fun hh => e ?_), h2]
      · omega
      · obtain ⟨ha, hb'⟩ := hh
        have e1 : (gt plan k).hour = x.hour := by omega
        have e2 : (gt plan k).dipper = x.dipper := by omega
        cases hx' : gt plan k with
        | mk p q => rw [hx'] at e1 e2; cases x; simp_all
def truthV (best : Bool) : Value := if best then .iface 84 (.agg #[]) else .iface 82 (.agg #[])
theorem hb_ok {cs : List Value} (a b : Nat) (ha : a < 4) (hb : b < 3) (hl : cs.length = 12) : 0 + a * 3 + b * 1 + 1 ≤ cs.length := by omega
theorem broken_hour {d : Dips} {plan : List Plc} {best : Bool} {k : Nat} (hv : dipsB d = true) (hk : k < d.bathers.length) (h0 : 0 ≤ (gt plan k).hour) (h1 : (gt plan k).hour ≤ 60) (hx : (gt plan k).dipper.toNat < d.dippers.length)
    (hb : bitN (gt d.bathers k).hours (gt plan k).hour = 0 ∨ bitN (gt d.dippers (gt plan k).dipper.toNat).hours (gt plan k).hour = 0) : brokenR d plan k best = 1 := by
  have hn := dips_num hv
  have hn1 := hn.2.2.2.1 _ hx
  have hn2 := hn.2.2.2.2 _ hk
  unfold brokenR
  rw [bit_has (by omega) h0 h1, bit_has (by omega) h0 h1, if_pos]
  rcases hb with h | h
  · left; rw [h]; rfl
  · right; rw [h]; rfl
theorem broken_hands {d : Dips} {plan : List Plc} {best : Bool} {k : Nat} (hv : dipsB d = true) (hk : k < d.bathers.length) (hkp : k < plan.length) (hq : PlOk d plan) (h1 : (gt plan k).hour ≤ 60) (hx : (gt plan k).dipper.toNat < d.dippers.length)
    (hb : bitN (gt d.bathers k).hours (gt plan k).hour = 1) (hb' : bitN (gt d.dippers (gt plan k).dipper.toNat).hours (gt plan k).hour = 1) :
    brokenR d plan k best = if hAt d plan best (k + 1) (gt plan k).hour.toNat (gt plan k).dipper.toNat < 0 then 2 else 0 := by
  have hn := dips_num hv
  have hn1 := hn.2.2.2.1 _ hx
  have hn2 := hn.2.2.2.2 _ hk
  have hq' := hq k hkp
  unfold brokenR
  rw [bit_has (by omega) (by omega) h1, bit_has (by omega) (by omega) h1, if_neg (by rw [hb, hb']; simp), hAt_left plan best hq (by omega) (by omega) hb' hx (k + 1) (by omega)]
end Go.Proofs.Ytidjdonppfegiaa
/- The key of the plans' table; the search in plain words. -/
namespace Go.Proofs.Ytidjdonppfegiaa
open Go.W Go.Dp
theorem laidOut : laidOutB Try.prog = true := by kernel_rfl
theorem key128 : Try.prog.keyType 128 = true := by kernel_rfl
theorem law128 : WideMaps.KeyLaw Try.prog 128 := deep_law_gate laidOut (Nat.le_of_ble_eq_true (by kernel_rfl)) (Nat.le_of_ble_eq_true (by kernel_rfl)) key128 (by kernel_rfl)
theorem tsize : ∃ n, Try.prog.types.size + 1 = n + 4 := ⟨Try.prog.types.size - 3, by have : 3 ≤ Try.prog.types.size := Nat.le_of_ble_eq_true (by kernel_rfl); omega⟩
theorem co118 : Try.prog.cellsOf 118 = 3 := by kernel_rfl
theorem co120 : Try.prog.cellsOf 120 = 12 := by kernel_rfl
theorem co128 : Try.prog.cellsOf 128 = 13 := by kernel_rfl
theorem co3 : Try.prog.cellsOf 3 = 1 := by kernel_rfl
theorem wfN {n : Int} (h : -1000 ≤ n ∧ n ≤ 1000) : (Lit.int .i64 n).wf = true := WalkArith.wf_i64 ⟨by omega, by omega⟩
theorem kl3 (d : Nat) {n : Int} (h : -1000 ≤ n ∧ n ≤ 1000) : Try.prog.keyLits (d + 1) 3 [it n] = some [.int .i64 n] := by
  simp [Program.keyLits, Try.underlying3, wfN h]
theorem kl118 (d : Nat) {a b c : Int} (ha : -1000 ≤ a ∧ a ≤ 1000) (hb : -1000 ≤ b ∧ b ≤ 1000) (hc : -1000 ≤ c ∧ c ≤ 1000) : Try.prog.keyLits (d + 2) 118 [it a, it b, it c] = some [.int .i64 a, .int .i64 b, .int .i64 c] := by
  unfold Program.keyLits
  simp only [Try.underlying118, co118, co3]
  simp [List.range_succ, List.range_zero, kl3 d ha, kl3 d hb, kl3 d hc]
theorem kl120 (d : Nat) {h : HM} (hh : ∀ a b, -1000 ≤ h a b ∧ h a b ≤ 1000) : ∃ L, Try.prog.keyLits (d + 3) 120 (handsC h) = some L := by
  rw [handsC_eq]
  unfold Program.keyLits
  simp only [Try.underlying120, co120, co118]
  simp [List.range_succ, List.range_zero, kl118 d (hh _ _) (hh _ _) (hh _ _)]
theorem keyM {j : Int} {h : HM} (hj : -1000 ≤ j ∧ j ≤ 1000) (hh : ∀ a b, -1000 ≤ h a b ∧ h a b ≤ 1000) : ∃ l, keyOf Try.prog 128 (.agg (it j :: handsC h).toArray) = some l := by
  obtain ⟨n, hn⟩ := tsize
  obtain ⟨L, hL⟩ := kl120 n hh
  have hlen : (handsC h).length = 12 := rfl
  unfold keyOf
  simp only [Try.underlying128, key128, Value.formed, co128, hn]
  unfold Program.keyLits
  simp only [Try.underlying128, co128, Value.cells]
  simp [hlen, co3, co120, kl3 _ hj, hL, List.take_of_length_le]

/-! ### the search -/
def cellAt (d : Dips) (best : Bool) (j : Nat) (h : HM) (hr k : Nat) : List (Plc × HM) :=
  if h hr k < need0 best (gt d.bathers j) then [] else [(⟨hr, k⟩, upd h hr k (h hr k - need0 best (gt d.bathers j)))]
def rowTo (d : Dips) (best : Bool) (j : Nat) (h : HM) (hr k : Nat) : List (Plc × HM) := (List.range k).flatMap (cellAt d best j h hr)
def hourAt (d : Dips) (best : Bool) (j : Nat) (h : HM) (hr : Nat) : List (Plc × HM) := if bitN (gt d.bathers j).hours hr = 0 then [] else rowTo d best j h hr d.dippers.length
def placesTo (d : Dips) (best : Bool) (j : Nat) (h : HM) (hr : Nat) : List (Plc × HM) := (List.range hr).flatMap (hourAt d best j h)
def placesL (d : Dips) (best : Bool) (j : Nat) (h : HM) : List (Plc × HM) := placesTo d best j h d.hours.toNat
def onP (d : Dips) (best : Bool) : Nat → HM → Option (List Plc)
  | 0, _ => some []
  | rem + 1, h => (placesL d best (d.bathers.length - (rem + 1)) h).findSome? fun p => (onP d best rem p.2).map (p.1 :: ·)

theorem rowTo_succ (d : Dips) (best : Bool) (j : Nat) (h : HM) (hr k : Nat) : rowTo d best j h hr (k + 1) = rowTo d best j h hr k ++ cellAt d best j h hr k := by
  simp [rowTo, List.range_succ]
theorem placesTo_succ (d : Dips) (best : Bool) (j : Nat) (h : HM) (hr : Nat) : placesTo d best j h (hr + 1) = placesTo d best j h hr ++ hourAt d best j h hr := by
  simp [placesTo, List.range_succ]
theorem rowTo_pre (d : Dips) (best : Bool) (j : Nat) (h : HM) (hr k : Nat) : ∀ n, rowTo d best j h hr k <+: rowTo d best j h hr (k + n) := by
  intro n
  induction n with
  | zero => exact List.prefix_refl _
  | succ n ih => rw [Nat.add_succ, rowTo_succ]; exact ih.trans (List.prefix_append _ _)
theorem placesTo_pre (d : Dips) (best : Bool) (j : Nat) (h : HM) (hr : Nat) : ∀ n, placesTo d best j h hr <+: placesTo d best j h (hr + n) := by
  intro n
  induction n with
  | zero => exact List.prefix_refl _
  | succ n ih => rw [Nat.add_succ, placesTo_succ]; exact ih.trans (List.prefix_append _ _)
/-- the next place is one of all -/
theorem next_pre (d : Dips) (best : Bool) (j : Nat) (h : HM) {hr k : Nat} (hh : hr < d.hours.toNat) (hk : k < d.dippers.length) (hb : ¬ bitN (gt d.bathers j).hours hr = 0) (hl : ¬ h hr k < need0 best (gt d.bathers j)) :
    (placesTo d best j h hr ++ rowTo d best j h hr k) ++ [(⟨hr, k⟩, upd h hr k (h hr k - need0 best (gt d.bathers j)))] <+: placesL d best j h := by
  have h1 : rowTo d best j h hr (k + 1) = rowTo d best j h hr k ++ [(⟨hr, k⟩, upd h hr k (h hr k - need0 best (gt d.bathers j)))] := by
    rw [rowTo_succ, cellAt, if_neg hl]
  have h2 : rowTo d best j h hr (k + 1) <+: hourAt d best j h hr := by
    have := rowTo_pre d best j h hr (k + 1) (d.dippers.length - (k + 1))
    rw [show k + 1 + (d.dippers.length - (k + 1)) = d.dippers.length by omega] at this
    rw [hourAt, if_neg hb]; exact this
  have h3 : placesTo d best j h (hr + 1) <+: placesL d best j h := by
    have := placesTo_pre d best j h (hr + 1) (d.hours.toNat - (hr + 1))
    rw [show hr + 1 + (d.hours.toNat - (hr + 1)) = d.hours.toNat by omega] at this
    exact this
  rw [List.append_assoc, ← h1]
  refine List.IsPrefix.trans ?_ h3
  rw [placesTo_succ]
  exact (List.prefix_append_right_inj _).2 h2
def Can (d : Dips) (best : Bool) (h : HM) : Prop := ∀ a b, ¬ (a < 4 ∧ b < 3) → h a b = beginH d best a b
def NumH (h : HM) : Prop := ∀ a b, -1 ≤ h a b ∧ h a b ≤ 8
theorem NumH.w {h : HM} (H : NumH h) : ∀ a b, -1000 ≤ h a b ∧ h a b ≤ 1000 := fun a b => by have := H a b; omega
theorem mem_places {d : Dips} (hv : dipsB d = true) {best : Bool} {j : Nat} (hj : j < d.bathers.length) {h : HM} (hc : Can d best h) (hn : NumH h) {p : Plc × HM} (hp : p ∈ placesL d best j h) :
    Can d best p.2 ∧ NumH p.2 ∧ 0 ≤ p.1.hour ∧ p.1.hour < d.hours ∧ 0 ≤ p.1.dipper ∧ p.1.dipper < d.dippers.length := by
  simp only [placesL, placesTo, List.mem_flatMap, List.mem_range, hourAt] at hp
  obtain ⟨hr, h1, h2⟩ := hp
  split at h2
  · cases h2
  · simp only [rowTo, List.mem_flatMap, List.mem_range, cellAt] at h2
    obtain ⟨k, h3, h4⟩ := h2
    have hd := dips_num hv
    have hb := need_num hv best hj
    split at h4
    · cases h4
    · simp only [List.mem_singleton] at h4
      subst h4
      refine ⟨fun a b hab => ?_, fun a b => ?_, by simp only; omega, by simp only; omega, by simp only; omega, by simp only; omega⟩
      · simp only [upd]
        rw [if_neg (fun e => hab (by omega))]
        exact hc a b hab
      · have h5 := hn a b
        have h6 := hn hr k
        simp only [upd]
        split <;> omega
theorem onP_len (d : Dips) (best : Bool) : ∀ rem h l, onP d best rem h = some l → l.length = rem := by
  intro rem
  induction rem with
  | zero => intro h l e; simp only [onP] at e; cases e; rfl
  | succ rem ih =>
    intro h l e
    simp only [onP] at e
    obtain ⟨p, _, hp⟩ := List.exists_of_findSome?_eq_some e
    cases hq : onP d best rem p.2 with
    | none => rw [hq] at hp; cases hp
    | some r =>
      rw [hq] at hp
      cases hp
      simp [ih _ _ hq]
theorem onP_hit {d : Dips} {best : Bool} {rem : Nat} {h : HM} {pre : List (Plc × HM)} {p : Plc × HM} {r : List Plc} (hL : pre ++ [p] <+: placesL d best (d.bathers.length - (rem + 1)) h) (hpre : ∀ q ∈ pre, onP d best rem q.2 = none) (hp : onP d best rem p.2 = some r) :
    onP d best (rem + 1) h = some (p.1 :: r) := by
  obtain ⟨suf, hs⟩ := hL
  simp only [onP]
  rw [← hs, List.append_assoc, List.findSome?_append]
  have : (pre.findSome? fun p => (onP d best rem p.2).map (p.1 :: ·)) = none := by
    rw [List.findSome?_eq_none_iff]
    intro q hq
    rw [hpre q hq]; rfl
  rw [this]
  simp [hp]
theorem onP_none {d : Dips} {best : Bool} {rem : Nat} {h : HM} (hpre : ∀ q ∈ placesL d best (d.bathers.length - (rem + 1)) h, onP d best rem q.2 = none) : onP d best (rem + 1) h = none := by
  simp only [onP]
  rw [List.findSome?_eq_none_iff]
  intro q hq
  rw [hpre q hq]; rfl

/-! ### in memory -/
def markV (j : Nat) (h : HM) : Value := .agg (nt j :: handsC h).toArray
def restV0 : Value := .agg #[.slice none 0 0, .bool false]
def RestV (D : Imm) (r : Option (List Plc)) (v : Value) : Prop :=
  match r with
  | none => v = .agg #[.slice none 0 0, .bool false]
  | some l => ∃ a n c, v = .agg #[.slice a n c, .bool true] ∧ PlanR D l a n ∧ (l = [] → a = none)
theorem RestV.ext {w : World} {D D' : Imm} (hD : DExt w D D') {r : Option (List Plc)} {v : Value} (h : RestV D r v) : RestV D' r v := by
  cases r with
  | none => exact h
  | some l => obtain ⟨a, n, c, h1, h2, h3⟩ := h; exact ⟨a, n, c, h1, ⟨h2.pl.ext hD, h2.len⟩, h3⟩
theorem RestV.split {D : Imm} {r : Option (List Plc)} {v : Value} (h : RestV D r v) : ∃ a n c b, v = .agg #[.slice a n c, .bool b] ∧ (b = false → r = none) ∧ (b = true → ∃ l, r = some l ∧ PlanR D l a n ∧ (l = [] → a = none)) := by
  cases r with
  | none => exact ⟨_, _, _, _, h, fun _ => rfl, fun e => by cases e⟩
  | some l => obtain ⟨a, n, c, h1, h2, h3⟩ := h; exact ⟨_, _, _, _, h1, fun e => (by cases e), fun _ => ⟨l, rfl, h2, h3⟩⟩
theorem RestV.isSome {D : Imm} {r : Option (List Plc)} {a : Option Addr} {n c : Nat} {f : Bool} (h : RestV D r (.agg #[.slice a n c, .bool f])) : f = r.isSome := by
  cases r with
  | none => have h1 : (Value.agg #[.slice a n c, .bool f]) = .agg #[.slice none 0 0, .bool false] := h; simp at h1; simp [h1]
  | some l => obtain ⟨a', n', c', h1, _⟩ := h; simp at h1; simp [h1]
theorem RestV.no {D : Imm} {r : Option (List Plc)} {a : Option Addr} {n c : Nat} {f : Bool} (h : RestV D r (.agg #[.slice a n c, .bool f])) (hf : f = false) : r = none := by
  have := h.isSome
  rw [hf] at this
  cases r with
  | none => rfl
  | some l => cases this
theorem RestV.yes {D : Imm} {r : Option (List Plc)} {a : Option Addr} {n c : Nat} {f : Bool} (h : RestV D r (.agg #[.slice a n c, .bool f])) (hf : f = true) : ∃ l, r = some l ∧ PlanR D l a n ∧ (l = [] → a = none) := by
  have hs := h.isSome
  cases r with
  | none => rw [hf] at hs; cases hs
  | some l =>
    obtain ⟨a', n', c', h1, h2, h3⟩ := h
    simp at h1
    obtain ⟨⟨rfl, rfl, rfl⟩, _⟩ := h1
    exact ⟨l, rfl, h2, h3⟩
theorem placeC_len (x : Plc) : (placeC x).length = 2 := rfl
/-- a place and a plan behind it, in a block of one's own that is written no more -/
theorem RestV.cons {D : Imm} {b cap : Nat} {t : TypeId} {fz : Nat × Nat} {x : Plc} {l : List Plc} {rest : List Value} {n : Nat} (hn : n = l.length) (hl : l.length ≤ 900) (hD : D b = some (.cells ((placeC x ++ l.flatMap placeC) ++ rest).toArray t fz)) :
    RestV D (some (x :: l)) (.agg #[.slice (some ⟨b, 0, none⟩) (1 + n) cap, .bool true]) := by
  subst hn
  refine ⟨_, _, _, rfl, ⟨?_, by omega⟩, fun h => by cases h⟩
  have := SlL.ofBlock (f := placeC) (m := 2) (l := x :: l) (rest := rest) placeC_len (by rw [List.flatMap_cons]; exact hD)
  rw [List.length_cons, Nat.add_comm] at this
  exact this
theorem placeC_one (l : List Plc) : ∀ v ∈ l.flatMap placeC, v.oneCell' = true := fun v hv => by
  obtain ⟨x, _, hx⟩ := List.mem_flatMap.1 hv
  simp only [placeC, List.mem_cons, List.mem_nil_iff, or_false] at hx
  rcases hx with rfl | rfl <;> rfl
theorem int_inj {a b : Int} (h : it a = it b) : a = b := by cases h; rfl
theorem markV_inj {d : Dips} {best : Bool} {j j' : Nat} {h h' : HM} (hc : Can d best h) (hc' : Can d best h') (e : markV j h = markV j' h') : j = j' ∧ h = h' := by
  have e1 : nt j :: handsC h = nt j' :: handsC h' := by
    have := congrArg (fun v => match v with | .agg cs => cs.toList | _ => []) e
    simpa [markV] using this
  have e2 := (List.cons.inj e1).1
  have e3 := (List.cons.inj e1).2
  refine ⟨by have := int_inj e2; omega, ?_⟩
  funext a b
  by_cases hab : a < 4 ∧ b < 3
  · have h1 := hands_at h a b hab.1 hab.2
    have h2 := hands_at h' a b hab.1 hab.2
    rw [e3, h2] at h1
    have := Option.some.inj h1
    exact (int_inj this).symm
  · rw [hc a b hab, hc' a b hab]
def MemoOK (d : Dips) (best : Bool) (D : Imm) (es : Array MapEntry) : Prop :=
  ∀ e ∈ es.toList, ∃ rem h, rem ≤ d.bathers.length ∧ Can d best h ∧ NumH h ∧ e.key = markV (d.bathers.length - rem) h ∧ RestV D (onP d best rem h) e.val
theorem MemoOK.ext {d : Dips} {best : Bool} {w : World} {D D' : Imm} (hD : DExt w D D') {es : Array MapEntry} (h : MemoOK d best D es) : MemoOK d best D' es := fun e he => by
  obtain ⟨rem, hh, h1, h2, h3, h4, h5⟩ := h e he
  exact ⟨rem, hh, h1, h2, h3, h4, h5.ext hD⟩
theorem MemoOK.keys {d : Dips} (hv : d.bathers.length ≤ 1000) {best : Bool} {D : Imm} {es : Array MapEntry} (h : MemoOK d best D es) : ∀ e ∈ es.toList, ∃ l, keyOf Try.prog 128 e.key = some l := fun e he => by
  obtain ⟨rem, hh, h1, h2, h3, h4, h5⟩ := h e he
  rw [h4]
  exact keyM (by omega) h3.w
theorem look_split {d : Dips} {best : Bool} {D : Imm} {hp : Hp} {es : Array MapEntry} {rem : Nat} {h : HM} {v : Value} {D' : Imm} {hp' : Hp} (hr : rem ≤ d.bathers.length) (hM : MemoOK d best D es) (hc : Can d best h)
    (hL : LookK D hp es (markV (d.bathers.length - rem) h) (.agg #[.slice none 0 0, .bool false]) v D' hp') : D = D' ∧ hp' = hp ∧ ∃ a n c f b, v = .tuple #[.agg #[.slice a n c, .bool f], .bool b] ∧ (b = true → RestV D (onP d best rem h) (.agg #[.slice a n c, .bool f])) := by
  obtain ⟨h1, h2, h3 | ⟨e, he, hk, h3⟩⟩ := hL
  · exact ⟨h1, h2, _, _, _, _, _, h3, fun e => by cases e⟩
  · obtain ⟨rem', h', h4, h5, h6, h7, h8⟩ := hM e he
    obtain ⟨e1, e2⟩ := markV_inj hc h5 (hk.symm.trans h7)
    have e3 : rem = rem' := by omega
    subst e2
    subst e3
    obtain ⟨a, n, c, b, hv, _, _⟩ := h8.split
    rw [hv] at h3 h8
    exact ⟨h1, h2, _, _, _, _, _, h3, fun _ => h8⟩
theorem memo_put {d : Dips} {best : Bool} {D : Imm} {es es' : Array MapEntry} {rem : Nat} {h : HM} {v : Value} (hr : rem ≤ d.bathers.length) (hM : MemoOK d best D es) (hc : Can d best h) (hn : NumH h) (hv : RestV D (onP d best rem h) v)
    (he : ∀ e ∈ es'.toList, (e.key = markV (d.bathers.length - rem) h ∧ e.val = v) ∨ e ∈ es.toList) : MemoOK d best D es' := fun e h' => by
  rcases he e h' with ⟨h1, h2⟩ | h1
  · exact ⟨rem, h, hr, hc, hn, h1, h2 ▸ hv⟩
  · exact hM e h1
/-- what the search reads -/
structure OnIn (d : Dips) (best : Bool) (D : Imm) (a1 : Option Addr) (n1 c1 : Nat) (a2 : Option Addr) (n2 c2 : Nat) (q q1 q4 q5 bm : Nat) : Prop where
  beach : D q = some (.cells (List.toArray [it d.hours, .slice a1 n1 c1, .slice a2 n2 c2, truthV best]) 89 (0, 0))
  dips : DipsR D d a1 n1 a2 n2
  c1 : D q1 = some (.cells (List.toArray [pt q]) 72 (0, 0))
  c4 : D q4 = some (.cells (List.toArray [.map (some bm)]) 125 (0, 0))
  c5 : D q5 = some (.cells (List.toArray [.func (.func 97) #[] #[pt q1, pt q4, pt q5]]) 126 (0, 0))
theorem OnIn.ext {d : Dips} {best : Bool} {D D' : Imm} {w : World} {a1 : Option Addr} {n1 c1 : Nat} {a2 : Option Addr} {n2 c2 : Nat} {q q1 q4 q5 bm : Nat} (h : OnIn d best D a1 n1 c1 a2 n2 c2 q q1 q4 q5 bm) (hX : DExt w D D') : OnIn d best D' a1 n1 c1 a2 n2 c2 q q1 q4 q5 bm :=
  ⟨hX.old _ _ h.beach, ⟨h.dips.dip.ext hX, h.dips.bath.ext hX, h.dips.len1, h.dips.len2⟩, hX.old _ _ h.c1, hX.old _ _ h.c4, hX.old _ _ h.c5⟩
def OnK (d : Dips) (best : Bool) (bm rem : Nat) (h : HM) (v : Value) (D' : Imm) (hpc' : Hp) : Prop := ∃ es' clock', hpc' = [(bm, .map es' clock')] ∧ MemoOK d best D' es' ∧ RestV D' (onP d best rem h) v
theorem rec_eta {r : Loop} (h1 : r.state = .ready) (h2 : r.pending = none) : r = { r with state := .ready, pending := none } := by
  cases r; simp_all
end Go.Proofs.Ytidjdonppfegiaa
