import Derived.Test.YtpnbkdlejfmbeaaXT
set_option linter.unusedSimpArgs false
set_option linter.unusedVariables false
set_option linter.all false
/- How pence are split: who has a penny more, and that the greedy way does the same. -/
namespace Go.Ti
open Go.W (gt gt_of)
theorem gt_nodup_mem {js : List Nat} (h : js.Nodup) {k : Nat} (hk : k < js.length) : gt js k ∉ js.take k := fun hm => by
  obtain ⟨i, hi, e⟩ := mem_gt hm
  rw [List.length_take] at hi
  have e2 : gt js i = gt js k := by
    rw [← e]; simp [gt, List.getD, List.getElem?_take, show i < k by omega]
  have := nodup_inj h (by omega) hk e2
  omega
theorem mem_take_succ {js : List Nat} {k i : Nat} (hk : k < js.length) : i ∈ js.take (k + 1) ↔ i ∈ js.take k ∨ i = gt js k := by
  have hg : gt js k = js[k] := by simp [gt, List.getD, hk]
  rw [List.take_succ_eq_append_getElem hk, List.mem_append, List.mem_singleton, hg]
theorem inc_at {l js : List Nat} (hjs : js.Nodup) (hlt : ∀ i, i < js.length → gt js i < l.length) : ∀ k, k ≤ js.length → ∀ i, i < l.length → gt (incL l (js.take k)) i = gt l i + if i ∈ js.take k then 1 else 0 := by
  intro k
  induction k with
  | zero => intro _ i hi; simp [incL]
  | succ k ih =>
    intro hk i hi
    have h1 := ih (by omega)
    rw [inc_take (by omega), gt_set _ _ _ _ (by rw [inc_len]; exact hlt k (by omega))]
    by_cases e : gt js k = i
    · subst e
      rw [if_pos rfl, h1 _ hi, if_neg (gt_nodup_mem hjs (by omega)), if_pos ((mem_take_succ (by omega)).2 (.inr rfl))]
    · rw [if_neg e, h1 i hi]
      by_cases hm : i ∈ js.take k
      · rw [if_pos hm, if_pos ((mem_take_succ (by omega)).2 (.inl hm))]
      · rw [if_neg hm, if_neg (fun h => by rcases (mem_take_succ (by omega)).1 h with h | h; exact hm h; exact e h.symm)]
theorem sortT_nodup (key : Nat → Int) (n : Nat) : (sortT key n).Nodup := (sortT_perm key n).nodup_iff.2 List.nodup_range
/-- who is among the first ones is ahead of who is not -/
theorem take_lex {key : Nat → Int} {n m i j : Nat} (hi : i ∈ (sortT key n).take m) (hj : j < n) (hn : j ∉ (sortT key n).take m) : lexB key i j := by
  obtain ⟨a, ha, rfl⟩ := mem_gt hi
  rw [List.length_take, sortT_len] at ha
  obtain ⟨b, hb, rfl⟩ := sortT_onto key n hj
  have hab : m ≤ b := by
    rcases Nat.lt_or_ge b m with h | h
    · refine absurd ?_ hn
      rw [show gt (sortT key n) b = gt ((sortT key n).take m) b by simp [gt, List.getD, List.getElem?_take, h]]
      exact gt_mem (by rw [List.length_take, sortT_len]; omega)
    · exact h
  have e : gt ((sortT key n).take m) a = gt (sortT key n) a := by simp [gt, List.getD, List.getElem?_take, show a < m by omega]
  rw [e]
  exact sortT_lex key n (by omega) hb
section
variable {M : Nat} {qs : List Nat}
def ordS (M : Nat) (qs : List Nat) : List Nat := sortT (keyS M qs.sum qs) qs.length
theorem ordS_len : (ordS M qs).length = qs.length := sortT_len _ _
theorem ordS_lt {i : Nat} (h : i < qs.length) : gt (ordS M qs) i < qs.length := sortT_lt _ _ h
theorem ordS_nodup : (ordS M qs).Nodup := sortT_nodup _ _
theorem ordS_perm : (ordS M qs).Perm (List.range qs.length) := sortT_perm _ _
theorem ordS_lex {a b : Nat} (hab : a < b) (hb : b < qs.length) : lexB (keyS M qs.sum qs) (gt (ordS M qs) a) (gt (ordS M qs) b) := sortT_lex _ _ hab hb
def tkS (M : Nat) (qs : List Nat) (i : Nat) : Prop := i ∈ (ordS M qs).take (leftN M qs.sum qs qs.length)
instance (i : Nat) : Decidable (tkS M qs i) := inferInstanceAs (Decidable (_ ∈ _))
theorem tk_lex {i j : Nat} (hi : tkS M qs i) (hj : j < qs.length) (hn : ¬ tkS M qs j) : remN M qs.sum qs j < remN M qs.sum qs i ∨ (remN M qs.sum qs i = remN M qs.sum qs j ∧ i < j) := by
  have : lexB (keyS M qs.sum qs) i j := take_lex hi hj hn
  unfold lexB keyS at this
  omega
theorem split_len : (splitL M qs).length = qs.length := by
  unfold splitL; split
  · simp
  · rw [inc_len, downL_len]
theorem split_at (h0 : 0 < qs.sum) {i : Nat} (hi : i < qs.length) : gt (splitL M qs) i = downN M qs.sum qs i + if tkS M qs i then 1 else 0 := by
  have hl := left_lt (M := M) (A := qs.sum) rfl h0
  unfold splitL; rw [if_neg (by omega), inc_at (sortT_nodup _ _) (fun i hi => by rw [sortT_len] at hi; rw [downL_len]; exact sortT_lt _ _ hi) _ (by rw [sortT_len]; omega) _ (by rw [downL_len]; exact hi), downL_at _ _ _ hi, if_pos hi]
  rfl
theorem sumF_perm (f : Nat → Nat) (n : Nat) : sumF f n = ((List.range n).map f).sum := by
  induction n with
  | zero => rfl
  | succ n ih => rw [List.range_succ, List.map_append, List.sum_append, ← ih]; simp [sumF]
theorem sum_perm {l m : List Nat} (h : l.Perm m) : l.sum = m.sum := by
  induction h with
  | nil => rfl
  | cons x _ ih => simp [ih]
  | swap x y l => simp; omega
  | trans _ _ ih1 ih2 => exact ih1.trans ih2
theorem sum_le_const {l : List Nat} {c : Nat} (h : ∀ x, x ∈ l → x ≤ c) : l.sum ≤ c * l.length := by
  induction l with
  | nil => simp
  | cons x l ih =>
    have h1 := h x (by simp)
    have h2 := ih fun y hy => h y (by simp [hy])
    simp only [List.sum_cons, List.length_cons, Nat.mul_succ]
    omega
/-- who has a penny more has a remainder -/
theorem tk_rem (h0 : 0 < qs.sum) {i : Nat} (hi : tkS M qs i) : 0 < remN M qs.sum qs i := by
  rcases Nat.eq_zero_or_pos (remN M qs.sum qs i) with hz | hz
  · exfalso
    obtain ⟨a, ha, rfl⟩ := mem_gt hi
    have hl := left_lt (M := M) (A := qs.sum) rfl h0
    rw [List.length_take, ordS_len] at ha
    have ha2 : a < leftN M qs.sum qs qs.length := by omega
    have e : gt ((ordS M qs).take (leftN M qs.sum qs qs.length)) a = gt (ordS M qs) a := by simp [gt, List.getD, List.getElem?_take, ha2]
    rw [e] at hz
    have hs := left_rem (M := M) (A := qs.sum) rfl h0
    rw [sumF_perm, ← sum_perm (ordS_perm.map (remN M qs.sum qs)), ← List.take_append_drop a (ordS M qs), List.map_append, List.sum_append] at hs
    have h1 : ((ordS M qs).take a |>.map (remN M qs.sum qs)).sum ≤ (qs.sum - 1) * a := by
      have := sum_le_const (l := ((ordS M qs).take a).map (remN M qs.sum qs)) (c := qs.sum - 1) (fun x hx => by
        obtain ⟨y, _, rfl⟩ := List.mem_map.1 hx
        have : remN M qs.sum qs y < qs.sum := Nat.mod_lt _ h0
        omega)
      rw [List.length_map, List.length_take, ordS_len, Nat.min_eq_left (by omega)] at this
      exact this
    have h2 : ((ordS M qs).drop a |>.map (remN M qs.sum qs)).sum ≤ 0 * ((ordS M qs).drop a |>.map (remN M qs.sum qs)).length := by
      refine sum_le_const fun x hx => ?_
      obtain ⟨y, hy, rfl⟩ := List.mem_map.1 hx
      obtain ⟨b, hb, rfl⟩ := mem_gt hy
      rw [List.length_drop, ordS_len] at hb
      have e2 : gt ((ordS M qs).drop a) b = gt (ordS M qs) (a + b) := by simp [gt, List.getD, List.getElem?_drop]
      rw [e2]
      rcases Nat.eq_zero_or_pos b with hb0 | hb0
      · rw [hb0, Nat.add_zero]; omega
      · have := ordS_lex (M := M) (qs := qs) (a := a) (b := a + b) (by omega) (by omega)
        unfold lexB keyS at this
        omega
    have h3 : (qs.sum - 1) * a < leftN M qs.sum qs qs.length * qs.sum := by
      have h4 : (qs.sum - 1) * a ≤ qs.sum * a := Nat.mul_le_mul_right _ (by omega)
      have h5 : (a + 1) * qs.sum ≤ leftN M qs.sum qs qs.length * qs.sum := Nat.mul_le_mul_right _ ha2
      rw [Nat.add_mul, Nat.mul_comm a] at h5
      omega
    rw [Nat.zero_mul] at h2
    omega
  · exact hz
theorem inc_sum {l : List Nat} : ∀ js : List Nat, (∀ j, j ∈ js → j < l.length) → (incL l js).sum = l.sum + js.length := by
  intro js
  induction js generalizing l with
  | nil => intro _; simp [incL]
  | cons j js ih =>
    intro h
    have hj := h j (by simp)
    have h1 : (incL l (j :: js)) = incL (l.set j (gt l j + 1)) js := rfl
    rw [h1, ih fun i hi => by rw [List.length_set]; exact h i (by simp [hi])]
    have h2 : ∀ (l : List Nat) (j : Nat), j < l.length → (l.set j (gt l j + 1)).sum = l.sum + 1 := by
      intro l
      induction l with
      | nil => intro j hj; simp at hj
      | cons x l ih2 =>
        intro j hj
        cases j with
        | zero => simp [gt, List.getD]; omega
        | succ j =>
          have := ih2 j (by simpa using hj)
          rw [List.set_cons_succ, List.sum_cons, List.sum_cons, show gt (x :: l) (j + 1) = gt l j from rfl, this]
          omega
    rw [h2 l j hj, List.length_cons]
    omega
theorem downL_sum (M A : Nat) (qs : List Nat) (n : Nat) : (downL M A qs n n).sum = sumF (downN M A qs) n := by
  rw [sumF_perm]
  congr 1
  unfold downL
  refine List.map_congr_left fun i hi => ?_
  rw [if_pos (List.mem_range.1 hi)]
theorem split_sum (h0 : 0 < qs.sum) : (splitL M qs).sum = M := by
  have hl := left_lt (M := M) (A := qs.sum) rfl h0
  unfold splitL
  rw [if_neg (by omega), inc_sum _ (fun j hj => by
    rw [downL_len]
    obtain ⟨a, ha, rfl⟩ := mem_gt (List.mem_of_mem_take hj)
    rw [sortT_len] at ha
    exact sortT_lt _ _ ha), downL_sum, List.length_take, sortT_len, Nat.min_eq_left (by omega)]
  have := down_le (M := M) (A := qs.sum) rfl h0 (Nat.le_refl qs.length)
  unfold leftN
  omega
end
theorem split_sum_le (M : Nat) (qs : List Nat) : (splitL M qs).sum ≤ M := by
  rcases Nat.eq_zero_or_pos qs.sum with h | h
  · unfold splitL; rw [if_pos h]
    have : (List.replicate qs.length 0).sum = 0 := by simp
    omega
  · rw [split_sum h]; exact Nat.le_refl _
theorem split_pos {M : Nat} {qs : List Nat} (h0 : 0 < qs.sum) {i : Nat} (hi : i < qs.length) (h : downN M qs.sum qs i < gt (splitL M qs) i) : 0 < remN M qs.sum qs i := by
  rw [split_at h0 hi] at h
  by_cases ht : tkS M qs i
  · exact tk_rem h0 ht
  · rw [if_neg ht] at h; omega
theorem split_num {M : Nat} {qs : List Nat} (h0 : 0 < qs.sum) {i : Nat} (hi : i < qs.length) : downN M qs.sum qs i ≤ gt (splitL M qs) i ∧ gt (splitL M qs) i ≤ downN M qs.sum qs i + 1 := by
  rw [split_at h0 hi]; split <;> omega
theorem down_rem (M A : Nat) (qs : List Nat) (i : Nat) : downN M A qs i * A + remN M A qs i = M * gt qs i := by
  unfold downN remN
  rw [Nat.mul_comm (M * gt qs i / A)]
  exact Nat.div_add_mod _ _
theorem split_mono {M : Nat} {qs : List Nat} (h0 : 0 < qs.sum) {i k : Nat} (hi : i < qs.length) (hk : k < qs.length) (h : gt qs k < gt qs i) : gt (splitL M qs) k ≤ gt (splitL M qs) i := by
  have n1 := split_num (M := M) h0 hi
  have n2 := split_num (M := M) h0 hk
  have hd : downN M qs.sum qs k ≤ downN M qs.sum qs i := Nat.div_le_div_right (Nat.mul_le_mul_left M (by omega))
  rcases Nat.lt_or_ge (downN M qs.sum qs k) (downN M qs.sum qs i) with h1 | h1
  · omega
  · have e : downN M qs.sum qs k = downN M qs.sum qs i := by omega
    rw [split_at h0 hi, split_at h0 hk, e]
    by_cases tk : tkS M qs k
    · by_cases ti : tkS M qs i
      · rw [if_pos tk, if_pos ti]; exact Nat.le_refl _
      · exfalso
        have hr := tk_rem h0 tk
        have hl := tk_lex tk hi ti
        have r1 := down_rem M qs.sum qs k
        have r2 := down_rem M qs.sum qs i
        rw [e] at r1
        have hM : 0 < M := by
          rcases Nat.eq_zero_or_pos M with hz | hz
          · subst hz; rw [Nat.zero_mul] at r1; omega
          · exact hz
        have := Nat.mul_lt_mul_of_pos_left h hM
        omega
    · rw [if_neg tk]; split <;> omega
theorem split_same {M : Nat} {qs : List Nat} (h0 : 0 < qs.sum) {i k : Nat} (hi : i < qs.length) (hk : k < qs.length) (h : gt qs k = gt qs i) (hik : i < k) : gt (splitL M qs) k ≤ gt (splitL M qs) i := by
  have e : downN M qs.sum qs k = downN M qs.sum qs i := by unfold downN; rw [h]
  have er : remN M qs.sum qs k = remN M qs.sum qs i := by unfold remN; rw [h]
  rw [split_at h0 hi, split_at h0 hk, e]
  by_cases tk : tkS M qs k
  · by_cases ti : tkS M qs i
    · rw [if_pos tk, if_pos ti]; exact Nat.le_refl _
    · have hl := tk_lex tk hi ti
      omega
  · rw [if_neg tk]; split <;> omega
theorem split_rem {M : Nat} {qs : List Nat} (h0 : 0 < qs.sum) {i k : Nat} (hi : i < qs.length) (hk : k < qs.length) (h : remN M qs.sum qs k < remN M qs.sum qs i) (hL : downN M qs.sum qs k < gt (splitL M qs) k) : gt (splitL M qs) i ≠ downN M qs.sum qs i := by
  rw [split_at h0 hk] at hL
  rw [split_at h0 hi]
  by_cases tk : tkS M qs k
  · by_cases ti : tkS M qs i
    · rw [if_pos ti]; omega
    · have hl := tk_lex tk hi ti
      omega
  · rw [if_neg tk] at hL; omega
theorem split_zero {M : Nat} {qs : List Nat} (h0 : qs.sum = 0) (i : Nat) : gt (splitL M qs) i = 0 := by
  unfold splitL; rw [if_pos h0]
  rcases Nat.lt_or_ge i qs.length with h | h
  · simp [gt, List.getD, h]
  · simp [gt, List.getD, h]
/-! the greedy way -/
def bestJ (f : Nat → Int) : Nat → Nat
  | 0 => 0
  | j + 1 => if f (bestJ f j) < f j then j else bestJ f j
theorem bestJ_spec (f : Nat → Int) : ∀ n, 0 < n → bestJ f n < n ∧ (∀ i, i < n → f i ≤ f (bestJ f n)) ∧ ∀ i, i < bestJ f n → f i < f (bestJ f n) := by
  intro n
  induction n with
  | zero => intro h; omega
  | succ n ih =>
    intro _
    rcases Nat.eq_zero_or_pos n with h | h
    · subst h
      have e : bestJ f (0 + 1) = 0 := by
        simp [bestJ]
      rw [e]
      exact ⟨by omega, fun i hi => by rw [show i = 0 by omega]; exact Int.le_refl _, fun i hi => by omega⟩
    · obtain ⟨h1, h2, h3⟩ := ih h
      simp only [bestJ]
      split
      · rename_i hc
        refine ⟨by omega, fun i hi => ?_, fun i hi => ?_⟩
        · rcases Nat.lt_or_ge i n with h4 | h4
          · have := h2 i h4; omega
          · rw [show i = n by omega]; exact Int.le_refl _
        · have := h2 i hi; omega
      · rename_i hc
        refine ⟨by omega, fun i hi => ?_, h3⟩
        rcases Nat.lt_or_ge i n with h4 | h4
        · exact h2 i h4
        · rw [show i = n by omega]; omega
theorem bestJ_lt (f : Nat → Int) {i n : Nat} (h : i < n) : bestJ f i < n := by
  rcases Nat.eq_zero_or_pos i with h0 | h0
  · subst h0; exact h
  · have := (bestJ_spec f i h0).1; omega
theorem bestJ_uniq {f : Nat → Int} {n c : Nat} (hc : c < n) (h1 : ∀ i, i < n → f i ≤ f c) (h2 : ∀ i, i < c → f i < f c) : bestJ f n = c := by
  obtain ⟨a, b, d⟩ := bestJ_spec f n (by omega)
  have e1 := h1 _ a
  have e2 := b _ hc
  rcases Nat.lt_trichotomy (bestJ f n) c with h | h | h
  · have := h2 _ h; omega
  · exact h
  · have := d _ h; omega
/-- the remainders that are left after k pennies -/
def restF (M : Nat) (qs : List Nat) (k i : Nat) : Int := if i ∈ (ordS M qs).take k then -1 else (remN M qs.sum qs i : Int)
def restL (M : Nat) (qs : List Nat) (k n : Nat) : List Int := (List.range n).map (restF M qs k)
theorem best_ord {M : Nat} {qs : List Nat} {k : Nat} (hk : k < qs.length) : bestJ (restF M qs k) qs.length = gt (ordS M qs) k := by
  have hlen : (ordS M qs).length = qs.length := ordS_len
  have hnm : gt (ordS M qs) k ∉ (ordS M qs).take k := gt_nodup_mem ordS_nodup (by omega)
  have hf : restF M qs k (gt (ordS M qs) k) = (remN M qs.sum qs (gt (ordS M qs) k) : Int) := by unfold restF; rw [if_neg hnm]
  have key : ∀ i, i < qs.length → i ≠ gt (ordS M qs) k → restF M qs k i < restF M qs k (gt (ordS M qs) k) ∨ (restF M qs k i = restF M qs k (gt (ordS M qs) k) ∧ gt (ordS M qs) k < i) := fun i hi hne => by
    rw [hf]
    by_cases hm : i ∈ (ordS M qs).take k
    · left; unfold restF; rw [if_pos hm]; omega
    · have h2 : i ∉ (ordS M qs).take (k + 1) := fun h => by
        rcases (mem_take_succ (by omega)).1 h with h | h
        · exact hm h
        · exact hne h
      have h3 : lexB (keyS M qs.sum qs) (gt (ordS M qs) k) i := take_lex (m := k + 1) ((mem_take_succ (js := ordS M qs) (by omega)).2 (.inr rfl)) hi h2
      unfold restF; rw [if_neg hm]
      unfold lexB keyS at h3
      omega
  refine bestJ_uniq (ordS_lt hk) (fun i hi => ?_) (fun i hi => ?_)
  · by_cases e : i = gt (ordS M qs) k
    · rw [e]; exact Int.le_refl _
    · have := key i hi e; omega
  · have hlt := ordS_lt (M := M) hk
    have := key i (by omega) (by omega)
    omega
theorem restL_at {M : Nat} {qs : List Nat} {k n i : Nat} (hi : i < n) : gt (restL M qs k n) i = restF M qs k i := by simp [restL, gt, List.getD, hi]
theorem restL_len (M : Nat) (qs : List Nat) (k n : Nat) : (restL M qs k n).length = n := by simp [restL]
theorem restL_step {M : Nat} {qs : List Nat} {k : Nat} (hk : k < qs.length) : (restL M qs k qs.length).set (gt (ordS M qs) k) (-1) = restL M qs (k + 1) qs.length := by
  apply List.ext_getElem
  · simp [restL]
  · intro i h1 h2
    simp only [restL, List.getElem_set, List.getElem_map, List.getElem_range]
    have hlen : (ordS M qs).length = qs.length := ordS_len
    unfold restF
    by_cases e : gt (ordS M qs) k = i
    · rw [if_pos e, if_pos ((mem_take_succ (by omega)).2 (.inr e.symm))]
    · rw [if_neg e]
      by_cases hm : i ∈ (ordS M qs).take k
      · rw [if_pos hm, if_pos ((mem_take_succ (by omega)).2 (.inl hm))]
      · rw [if_neg hm, if_neg (fun h => by rcases (mem_take_succ (by omega)).1 h with h | h; exact hm h; exact e h.symm)]
end Go.Ti
