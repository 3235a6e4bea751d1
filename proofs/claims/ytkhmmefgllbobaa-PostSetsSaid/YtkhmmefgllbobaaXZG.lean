import Derived.Test.YtkhmmefgllbobaaXZO
import Derived.Test.YtkhmmefgllbobaaXZV
set_option linter.unusedSimpArgs false
set_option linter.unusedVariables false
set_option linter.all false
set_option maxRecDepth 100000
set_option maxHeartbeats 1000000
/- How near two were, each distance of a truth. No program in sight. -/
namespace Go.Proofs.Ytkhmmefgllbobaa
open Go.W Go.Po
theorem near_flip {lo hi : Int} (h : lo ≤ hi) : nearS (-hi) (-lo) = nearS lo hi := by
  unfold nearS
  split <;> split <;> (congr 1 <;> omega)
def nearG (p : Post) (a b : Int) : Sp := nearS (-GA p (ix b) (ix a)) (GA p (ix a) (ix b))
section
variable {p : Post} (hv : postB p = true) (hok : okA p = true) {a b : Int} (ha : whoP p a = true) (hb : whoP p b = true)
include hv hok ha hb
theorem gap_le : -GA p (ix b) (ix a) ≤ GA p (ix a) (ix b) := by
  obtain ⟨x, hx⟩ := (ok_iff hv).1 hok
  have := (gap_in hv hok ha hb _).2 ⟨x, hx, rfl⟩
  omega
theorem near_sym : nearG p b a = nearG p a b := by
  have h := near_flip (gap_le hv hok ha hb)
  rw [Int.neg_neg] at h
  exact h
theorem near_is (m : Int) : ((nearG p a b).lo ≤ m ∧ m ≤ (nearG p a b).hi) ↔ ∃ x, Sol p (allR p) x ∧ max (x (ix b) - x (ix a)) (-(x (ix b) - x (ix a))) = m := by
  unfold nearG
  rw [near_in (gap_le hv hok ha hb)]
  constructor
  · rintro ⟨v, h1, h2, rfl⟩
    obtain ⟨x, hx, rfl⟩ := (gap_in hv hok ha hb v).1 ⟨h1, h2⟩
    exact ⟨x, hx, rfl⟩
  · rintro ⟨x, hx, rfl⟩
    have := (gap_in hv hok ha hb _).2 ⟨x, hx, rfl⟩
    exact ⟨_, this.1, this.2, rfl⟩
theorem near_ends : 0 ≤ (nearG p a b).lo ∧ (nearG p a b).lo ≤ (nearG p a b).hi ∧ (nearG p a b).hi ≤ 40 := by
  obtain ⟨x, hx⟩ := (ok_iff hv).1 hok
  have h1 := (near_is hv hok ha hb _).2 ⟨x, hx, rfl⟩
  have hle : (nearG p a b).lo ≤ (nearG p a b).hi := by omega
  obtain ⟨y, hy, ey⟩ := (near_is hv hok ha hb (nearG p a b).lo).1 ⟨Int.le_refl _, hle⟩
  obtain ⟨z, hz, ez⟩ := (near_is hv hok ha hb (nearG p a b).hi).1 ⟨hle, Int.le_refl _⟩
  have h2 := sol_num hv hz ha
  have h3 := sol_num hv hz hb
  omega
theorem near_lo0 (h : (nearG p a b).lo = 0) : ¬ befG p a b = 2 ∧ ¬ befG p b a = 2 := by
  have h1 := near_ends hv hok ha hb
  obtain ⟨y, hy, ey⟩ := (near_is hv hok ha hb 0).1 ⟨by omega, by omega⟩
  exact ⟨fun e => (bef_is2 hv hok ha hb).1 e ⟨y, hy, by omega⟩, fun e => (bef_is2 hv hok hb ha).1 e ⟨y, hy, by omega⟩⟩
theorem near_x2 (h : befG p a b = 2) : befG p b a = 0 := by
  refine (bef_is0 hv hok hb ha).2 ?_
  rintro ⟨y, hy, hl⟩
  exact (bef_is2 hv hok ha hb).1 h ⟨y, hy, by omega⟩
theorem near_hi0 (h : (nearG p a b).hi = 0) : befG p a b = 0 ∧ befG p b a = 0 := by
  have h1 := near_ends hv hok ha hb
  have h2 : ∀ x, Sol p (allR p) x → x (ix b) = x (ix a) := fun x hx => by
    have := (near_is hv hok ha hb _).2 ⟨x, hx, rfl⟩
    omega
  refine ⟨(bef_is0 hv hok ha hb).2 ?_, (bef_is0 hv hok hb ha).2 ?_⟩
  · rintro ⟨y, hy, hl⟩; have := h2 y hy; omega
  · rintro ⟨y, hy, hl⟩; have := h2 y hy; omega
end
theorem near_self {p : Post} (hv : postB p = true) (hok : okA p = true) {a : Int} (ha : whoP p a = true) : nearG p a a = ⟨0, 0⟩ := by
  have h := (far_ends (allR_in hv).in hok (ix_who ha).1 (ix_who ha).1).2 rfl
  unfold nearG GA
  rw [h]; rfl
/-- of a place that can be, the other one's places -/
theorem spot_okA {p : Post} (hv : postB p = true) (hok : okA p = true) {a m : Int} (ha : whoP p a = true) (hm : -GA p (ix a) 0 ≤ m ∧ m ≤ GA p 0 (ix a)) : okA (spotP p a m) = true := by
  have h0 := own_in hv hok ha
  obtain ⟨x, hx, e⟩ := (place_in hv hok ha m).1 hm
  exact (ok_iff (spot_ok hv ha ⟨by omega, by omega⟩)).2 ⟨x, (sol_spot ha ⟨by omega, by omega⟩).2 ⟨hx, e⟩⟩
theorem spot_who {p : Post} {a m b : Int} (h : whoP p b = true) : whoP (spotP p a m) b = true := by
  have := spot_len p a m
  simpa only [whoP, this] using h
theorem spot_in {p : Post} (hv : postB p = true) (hok : okA p = true) {a b m : Int} (ha : whoP p a = true) (hb : whoP p b = true) (hm : -GA p (ix a) 0 ≤ m ∧ m ≤ GA p 0 (ix a)) (o : Int) : (-GA (spotP p a m) (ix b) 0 ≤ o ∧ o ≤ GA (spotP p a m) 0 (ix b)) ↔ ∃ x, Sol p (allR p) x ∧ x (ix a) = m ∧ x (ix b) = o := by
  have h0 := own_in hv hok ha
  rw [place_in (spot_ok hv ha ⟨by omega, by omega⟩) (spot_okA hv hok ha hm) (spot_who hb)]
  refine exists_congr fun x => ?_
  rw [sol_spot ha ⟨by omega, by omega⟩, and_assoc]
/-- distances of truths with the first one's place below k -/
def Fnd (p : Post) (a b k z : Int) : Prop := ∃ x, Sol p (allR p) x ∧ x (ix a) < k ∧ max (x (ix b) - x (ix a)) (-(x (ix b) - x (ix a))) = z
def FndAt (p : Post) (a b m o z : Int) : Prop := ∃ x, Sol p (allR p) x ∧ x (ix a) = m ∧ x (ix b) < o ∧ max (x (ix b) - x (ix a)) (-(x (ix b) - x (ix a))) = z
section
variable {p : Post} (hv : postB p = true) (hok : okA p = true) {a b : Int} (ha : whoP p a = true) (hb : whoP p b = true)
include hv hok ha
theorem fnd_start (z : Int) : ¬ Fnd p a b (-GA p (ix a) 0) z := by
  rintro ⟨x, hx, h, _⟩
  have := (place_in hv hok ha _).2 ⟨x, hx, rfl⟩
  omega
include hb
theorem fnd_all {k : Int} (h : GA p 0 (ix a) < k) (z : Int) : Fnd p a b k z ↔ ((nearG p a b).lo ≤ z ∧ z ≤ (nearG p a b).hi) := by
  rw [near_is hv hok ha hb]
  refine exists_congr fun x => and_congr_right fun hx => ?_
  have := (place_in hv hok ha _).2 ⟨x, hx, rfl⟩
  exact ⟨fun h => h.2, fun h2 => ⟨by omega, h2⟩⟩
theorem fndAt_start {m : Int} (hm : -GA p (ix a) 0 ≤ m ∧ m ≤ GA p 0 (ix a)) (z : Int) : ¬ FndAt p a b m (-GA (spotP p a m) (ix b) 0) z := by
  rintro ⟨x, hx, e, h, _⟩
  have := (spot_in hv hok ha hb hm _).2 ⟨x, hx, e, rfl⟩
  omega
theorem fnd_step {m o : Int} (hm : -GA p (ix a) 0 ≤ m ∧ m ≤ GA p 0 (ix a)) (ho : -GA (spotP p a m) (ix b) 0 ≤ o ∧ o ≤ GA (spotP p a m) 0 (ix b)) (z : Int) : FndAt p a b m (o + 1) z ↔ FndAt p a b m o z ∨ z = max (o - m) (m - o) := by
  constructor
  · rintro ⟨x, hx, e, h, rfl⟩
    by_cases h2 : x (ix b) < o
    · exact .inl ⟨x, hx, e, h2, rfl⟩
    · right; omega
  · rintro (⟨x, hx, e, h, rfl⟩ | rfl)
    · exact ⟨x, hx, e, by omega, rfl⟩
    · obtain ⟨x, hx, e, e2⟩ := (spot_in hv hok ha hb hm o).1 ho
      exact ⟨x, hx, e, by omega, by rw [e, e2]; congr 1; omega⟩
theorem fnd_next {m o : Int} (hm : -GA p (ix a) 0 ≤ m ∧ m ≤ GA p 0 (ix a)) (ho : GA (spotP p a m) 0 (ix b) < o) (z : Int) : Fnd p a b (m + 1) z ↔ Fnd p a b m z ∨ FndAt p a b m o z := by
  constructor
  · rintro ⟨x, hx, h, rfl⟩
    by_cases h2 : x (ix a) < m
    · exact .inl ⟨x, hx, h2, rfl⟩
    · have e : x (ix a) = m := by omega
      have := (spot_in hv hok ha hb hm _).2 ⟨x, hx, e, rfl⟩
      exact .inr ⟨x, hx, e, by omega, rfl⟩
  · rintro (⟨x, hx, h, rfl⟩ | ⟨x, hx, e, h, rfl⟩)
    · exact ⟨x, hx, by omega, rfl⟩
    · exact ⟨x, hx, by omega, rfl⟩
end
theorem bne_bool {c : Bool} {A B : Prop} [Decidable A] [Decidable B] (h : c = true ↔ A ∧ B) : (c != (decide A && decide B)) = false := by
  rw [← Bool.decide_and]
  cases c with
  | true => rw [decide_eq_true (h.1 rfl)]; rfl
  | false => rw [decide_eq_false (fun hh => by have := h.2 hh; cases this)]; rfl
def ntV (y : Fin 64) : Value := nt y.val
theorem ntV_inj (x y : Fin 64) (h : ntV x = ntV y) : x = y := by
  simp only [ntV, nt, Value.int.injEq, true_and] at h
  exact Fin.ext (by omega)
theorem law3 : Go.Maps.Keyed Try.prog 3 := Go.Maps.int_keyed Try.underlying3
noncomputable def keyAll3B : Bool := (List.range 64).all fun a => (keyOf Try.prog 3 (.int .i64 (a : Int))).isSome
theorem keyAll3 : keyAll3B = true := by kernel_rfl
theorem key_nt (y : Fin 64) : ∃ l, keyOf Try.prog 3 (ntV y) = some l := Option.isSome_iff_exists.1 (List.all_eq_true.1 keyAll3 y.val (List.mem_range.2 y.isLt))
end Go.Proofs.Ytkhmmefgllbobaa
