import Derived.Test.YtkhmmefgllbobaaXZO
set_option linter.unusedSimpArgs false
set_option linter.unusedVariables false
set_option linter.all false
set_option maxRecDepth 100000
set_option maxHeartbeats 1000000
/- Claims of a set alone; which clash. No program in sight. -/
namespace Go.Proofs.Ytkhmmefgllbobaa
open Go.W Go.Po
def selC (p : Post) (s : Nat) : Nat → List PClaim
  | 0 => []
  | k + 1 => if s / 2 ^ k % 2 = 1 then selC p s k ++ [gt p.claims k] else selC p s k
theorem selC_len (p : Post) (s : Nat) : ∀ k, (selC p s k).length ≤ k := by
  intro k
  induction k with
  | zero => exact Nat.le_refl _
  | succ k ih =>
    simp only [selC]
    split
    · rw [List.length_append]; simp; omega
    · omega
theorem selC_mem (p : Post) (s : Nat) (q : PClaim → Prop) : ∀ k, (∀ r ∈ selC p s k, q r) ↔ ∀ i, i < k → s / 2 ^ i % 2 = 1 → q (gt p.claims i) := by
  intro k
  induction k with
  | zero => simp [selC]
  | succ k ih =>
    simp only [selC]
    constructor
    · intro h i hi hb
      rcases Nat.lt_or_ge i k with h1 | h1
      · refine ih.1 (fun r hr => h r ?_) i h1 hb
        split
        · exact List.mem_append.2 (.inl hr)
        · exact hr
      · obtain rfl : i = k := by omega
        rw [if_pos hb] at h
        exact h _ (List.mem_append.2 (.inr (List.mem_singleton.2 rfl)))
    · intro h r hr
      split at hr
      · rename_i hb
        rcases List.mem_append.1 hr with h1 | h1
        · exact ih.2 (fun i hi => h i (by omega)) r h1
        · rw [List.mem_singleton.1 h1]; exact h k (by omega) hb
      · exact ih.2 (fun i hi => h i (by omega)) r hr
def selP (p : Post) (s : Nat) : Post := ⟨p.post, p.bathers, selC p s p.claims.length⟩
theorem sel_place (p : Post) (s : Nat) (i : Nat) : placeN (selP p s) i = placeN p i := by
  unfold selP placeN
  split <;> rfl
theorem sel_sol {p : Post} {s : Nat} {x : Nat → Int} : Sol (selP p s) (allR (selP p s)) x ↔ Sol p (selA p s) x := by
  rw [sol_all, sol_sel]
  refine and_congr ?_ (selC_mem p s (COk x) _)
  unfold InP
  simp only [sel_place]
  exact Iff.rfl
theorem sel_ok {p : Post} (hv : postB p = true) (s : Nat) : postB (selP p s) = true := by
  obtain ⟨h1, h2, h3, h4, h5⟩ := (postB_iff p).1 hv
  have hl := selC_len p s p.claims.length
  refine (postB_iff _).2 ⟨h1, h2, by show (selC p s p.claims.length).length ≤ 8; omega, h4, fun i hi => ?_⟩
  have := (selC_mem p s (fun c => claimP p c = true) p.claims.length).2 (fun i hi _ => h5 i hi)
  exact this _ (gt_mem hi)
theorem sel_clash {p : Post} (hv : postB p = true) (s : Nat) : decide ((PlaceOut (selP p s) (-1)).2 = 10) = clashB p s := by
  have hw : whoP (selP p s) (-1) = true := decide_eq_true ⟨by omega, by omega⟩
  have h1 : okA (selP p s) = farOk p (selA p s) := by
    rw [Bool.eq_iff_iff, ok_iff (sel_ok hv s), far_ok (selA_in hv s).in]
    exact exists_congr fun x => sel_sol
  unfold clashB
  rw [← h1]
  cases hok : okA (selP p s) with
  | true => rw [place_out (sel_ok hv s) hok hw]; rfl
  | false => rw [place_bad (sel_ok hv s) hok hw]; rfl
theorem clash_at {p : Post} (hv : postB p = true) (hok : okA p = false) : clashB p (clashS p) = true ∧ clashS p < 2 ^ p.claims.length ∧ ∀ y, y < 2 ^ p.claims.length → clashB p y = true → clashS p = y ∨ SetLt (clashS p) y := by
  have h8 := (post_num hv).2.2.1
  have h0 := Nat.two_pow_pos p.claims.length
  exact first_of (by omega) ⟨everyS p, by unfold everyS; omega, by show (!okA p) = true; rw [hok]; rfl⟩
theorem clash_none0 {p : Post} (hv : postB p = true) : clashB p 0 = false := by
  rw [clash_iff hv]
  obtain ⟨x, hx⟩ := inP_some hv
  exact ⟨x, sol_sel.2 ⟨hx, fun i _ h => by rw [Nat.zero_div] at h; cases h⟩⟩
theorem clash_pos {p : Post} (hv : postB p = true) (hok : okA p = false) : 1 ≤ clashS p := by
  have h1 := (clash_at hv hok).1
  have h2 := clash_none0 hv
  rcases Nat.eq_zero_or_pos (clashS p) with h | h
  · rw [h, h2] at h1; cases h1
  · exact h
theorem free_clash (p : Post) (s : Nat) : clashB p (everyS p - s) = !freeB p s := rfl
theorem free_left {p : Post} (hv : postB p = true) : clashB p (everyS p - falseS p) = false := by
  rw [free_clash, (false_at hv).1]; rfl
theorem and_bit {a b i : Nat} (h : a &&& b = 0) (ha : a / 2 ^ i % 2 = 1) : ¬ b / 2 ^ i % 2 = 1 := by
  intro hb
  have h1 : (a &&& b).testBit i = true := by
    rw [Nat.testBit_and, Nat.testBit_eq_decide_div_mod_eq, Nat.testBit_eq_decide_div_mod_eq, decide_eq_true ha, decide_eq_true hb]; rfl
  rw [h, Nat.zero_testBit] at h1
  cases h1
theorem clash_and {p : Post} (hv : postB p = true) (hok : okA p = false) : ¬ ((clashS p &&& falseS p : Nat) : Int) = 0 := by
  intro h
  have h0 : clashS p &&& falseS p = 0 := by omega
  have h8 := (post_num hv).2.2.1
  obtain ⟨x, hx⟩ := (clash_iff hv _).1 (free_left hv)
  have hc := (clash_at hv hok).1
  have : clashB p (clashS p) = false := (clash_iff hv _).2 ⟨x, by
    rw [sol_sel] at hx ⊢
    exact ⟨hx.1, fun i hi hb => hx.2 i hi ((left_bit _ (by omega) _ (false_at hv).2.1 i hi).2 (and_bit h0 hb))⟩⟩
  rw [this] at hc; cases hc
theorem pop_less : ∀ s, s < 256 → ∀ i, i < 8 → s / 2 ^ i % 2 = 1 → pop (s - 2 ^ i) < pop s ∧ 2 ^ i ≤ s := of_decide_eq_true (by kernel_rfl)
theorem lt_256 {n s : Nat} (hn : n ≤ 8) (h : s < 2 ^ n) : s < 256 := Nat.lt_of_lt_of_le h (Nat.pow_le_pow_right (n := 2) (by omega) hn)
theorem clash_less {p : Post} (hv : postB p = true) (hok : okA p = false) {i : Nat} (hi : i < p.claims.length) (hb : clashS p / 2 ^ i % 2 = 1) : clashB p (clashS p - 2 ^ i) = false := by
  have h8 := (post_num hv).2.2.1
  obtain ⟨h1, h2, h3⟩ := clash_at hv hok
  obtain ⟨h4, h5⟩ := pop_less _ (lt_256 h8 h2) i (by omega) hb
  have h6 := Nat.two_pow_pos i
  cases hc : clashB p (clashS p - 2 ^ i) with
  | false => rfl
  | true =>
    rcases h3 _ (by omega) hc with h | h
    · omega
    · unfold SetLt at h; omega
theorem nat_and {a b : Nat} (ha : a < 2 ^ 60) : IntKind.i64.wrap ((BitVec.ofInt 64 (a : Int) &&& BitVec.ofInt 64 (b : Int)).toNat) = ((a &&& b : Nat) : Int) := by
  rw [BitVec.ofInt_natCast, BitVec.ofInt_natCast, ← BitVec.ofNat_and, BitVec.toNat_ofNat]
  have h := Nat.and_le_left (n := a) (m := b)
  rw [Nat.mod_eq_of_lt (by omega)]
  exact wr64 (by omega)
theorem own_and : ∀ n, n < 9 → ∀ m : Nat, m < 256 → IntKind.i64.wrap ((BitVec.ofInt 64 (m : Int) &&& BitVec.ofInt 64 ((2 ^ n - 1 : Nat) : Int)).toNat) = ((m % 2 ^ n : Nat) : Int) := fun n hn m hm => by
  rw [nat_and (by omega)]
  rw [Nat.and_two_pow_sub_one_eq_mod]
theorem rest64 : ∀ n, n < 9 → ∀ s : Nat, s < 2 ^ n → IntKind.i64.wrap ((BitVec.ofInt 64 ((2 ^ n - 1 : Nat) : Int) &&& ~~~(BitVec.ofInt 64 (s : Int))).toNat) = ((2 ^ n - 1 - s : Nat) : Int) := of_decide_eq_true (by kernel_rfl)
theorem drop64 : ∀ s : Nat, s < 256 → ∀ i : Nat, i < 8 → s / 2 ^ i % 2 = 1 → IntKind.i64.wrap ((BitVec.ofInt 64 (s : Int) &&& ~~~(BitVec.ofInt 64 ((2 ^ i : Nat) : Int))).toNat) = ((s - 2 ^ i : Nat) : Int) := of_decide_eq_true (by kernel_rfl)
theorem free_least {p : Post} (hv : postB p = true) {s : Nat} (hs : s < 2 ^ p.claims.length) (h : clashB p (everyS p - s) = false) : pop (falseS p) ≤ pop s ∧ (pop s = pop (falseS p) → falseS p ≤ s) := by
  rw [free_clash] at h
  rcases (false_at hv).2.2 s hs (by simpa using h) with h1 | h1
  · exact ⟨Nat.le_of_eq (congrArg pop h1), fun _ => Nat.le_of_eq h1⟩
  · unfold SetLt at h1; omega
theorem clash_least {p : Post} (hv : postB p = true) (hok : okA p = false) {s : Nat} (hs : s < 2 ^ p.claims.length) (h : clashB p s = true) : pop (clashS p) ≤ pop s ∧ (pop s = pop (clashS p) → clashS p ≤ s) := by
  rcases (clash_at hv hok).2.2 s hs h with h1 | h1
  · exact ⟨Nat.le_of_eq (congrArg pop h1), fun _ => Nat.le_of_eq h1⟩
  · unfold SetLt at h1; omega
theorem every_clash (p : Post) : clashB p (2 ^ p.claims.length - 1) = !okA p := rfl
end Go.Proofs.Ytkhmmefgllbobaa
