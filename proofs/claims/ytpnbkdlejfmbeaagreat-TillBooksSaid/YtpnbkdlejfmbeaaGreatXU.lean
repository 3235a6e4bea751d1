import Derived.Test.YtpnbkdlejfmbeaaGreatXT
set_option linter.unusedSimpArgs false
set_option linter.unusedVariables false
set_option linter.all false
set_option maxRecDepth 100000
set_option maxHeartbeats 1000000
/- How pence are split: who has a penny more, and that the greedy way does the same. -/
namespace Go.Ti
open Go.W (gt gt_of)
theorem gt_nodup_mem {js : List Nat} (h : js.Nodup) {k : Nat} (hk : k < js.length) : gt js k ∉ js.take k := fun hm => by
  obtain ⟨i, hi, e⟩ := mem_gt hm
  rw [List.length_take] at hi
  have e2 : gt js i = gt js k := by
    rw [← e]; simp [gt, List.getD, List.getElem?_take, show i < k by omega]
  have := nodup_inj h (by omega) hk e2
  omega
theorem mem_take_succ {js : List Nat} {k i : Nat} (hk : k < js.length) : i ∈ js.take (k + 1) ↔ i ∈ js.take k ∨ i = gt js k := by
  have hg : gt js k = js[k] := by simp [gt, List.getD, hk]
  rw [List.take_succ_eq_append_getElem hk, List.mem_append, List.mem_singleton, hg]
theorem inc_at {l js : List Nat} (hjs : js.Nodup) (hlt : ∀ i, i < js.length → gt js i < l.length) : ∀ k, k ≤ js.length → ∀ i, i < l.length → gt (incL l (js.take k)) i = gt l i + if i ∈ js.take k then 1 else 0 := by
  intro k
  induction k with
  | zero => intro _ i hi; simp [incL]
  | succ k ih =>
    intro hk i hi
    have h1 := ih (by omega)
    rw [inc_take (by omega), gt_set _ _ _ _ (by rw [inc_len]; exact hlt k (by omega))]
    by_cases e : gt js k = i
    · subst e
      rw [if_pos rfl, h1 _ hi, if_neg (gt_nodup_mem hjs (by omega)), if_pos ((mem_take_succ (by omega)).2 (.inr rfl))]
    · rw [if_neg e, h1 i hi]
      by_cases hm : i ∈ js.take k
      · rw [if_pos hm, if_pos ((mem_take_succ (by omega)).2 (.inl hm))]
      · rw [if_neg hm, if_neg (fun h => by rcases (mem_take_succ (by omega)).1 h with h | h; exact hm h; exact e h.symm)]
theorem sortT_nodup (key : Nat → Int) (n : Nat) : (sortT key n).Nodup := (sortT_perm key n).nodup_iff.2 List.nodup_range
/-- who is among the first ones is ahead of who is not -/
theorem take_lex {key : Nat → Int} {n m i j : Nat} (hi : i ∈ (sortT key n).take m) (hj : j < n) (hn : j ∉ (sortT key n).take m) : lexB key i j := by
  obtain ⟨a, ha, rfl⟩ := mem_gt hi
  rw [List.length_take, sortT_len] at ha
  obtain ⟨b, hb, rfl⟩ := sortT_onto key n hj
  have hab : m ≤ b := by
    rcases Nat.lt_or_ge b m with h | h
    · refine absurd ?_ hn
      rw [show gt (sortT key n) b = gt ((sortT key n).take m) b by simp [gt, List.getD, List.getElem?_take, h]]
      exact gt_mem (by rw [List.length_take, sortT_len]; omega)
    · exact h
  have e : gt ((sortT key n).take m) a = gt (sortT key n) a := by simp [gt, List.getD, List.getElem?_take, show a < m by omega]
  rw [e]
  exact sortT_lex key n (by omega) hb
section
variable {M : Nat} {qs : List Nat}
def ordS (M : Nat) (qs : List Nat) : List Nat := sortT (keyS M qs.sum qs) qs.length
theorem ordS_len : (ordS M qs).length = qs.length := sortT_len _ _
theorem ordS_lt {i : Nat} (h : i < qs.length) : gt (ordS M qs) i < qs.length := sortT_lt _ _ h
theorem ordS_nodup : (ordS M qs).Nodup := sortT_nodup _ _
theorem ordS_perm : (ordS M qs).Perm (List.range qs.length) := sortT_perm _ _
theorem ordS_lex {a b : Nat} (hab : a < b) (hb : b < qs.length) : lexB (keyS M qs.sum qs) (gt (ordS M qs) a) (gt (ordS M qs) b) := sortT_lex _ _ hab hb
def tkS (M : Nat) (qs : List Nat) (i : Nat) : Prop := i ∈ (ordS M qs).take (leftN M qs.sum qs qs.length)
instance (i : Nat) : Decidable (tkS M qs i) := inferInstanceAs (Decidable (_ ∈ _))
theorem tk_lex {i j : Nat} (hi : tkS M qs i) (hj : j < qs.length) (hn : ¬ tkS M qs j) : remN M qs.sum qs j < remN M qs.sum qs i ∨ (remN M qs.sum qs i = remN M qs.sum qs j ∧ i < j) := by
  have : lexB (keyS M qs.sum qs) i j := take_lex hi hj hn
  unfold lexB keyS at this
  omega
theorem split_len : (splitL M qs).length = qs.length := by
  unfold splitL; split
  · simp
  · rw [inc_len, downL_len]
theorem split_at (h0 : 0 < qs.sum) {i : Nat} (hi : i < qs.length) : gt (splitL M qs) i = downN M qs.sum qs i + if tkS M qs i then 1 else 0 := by
  have hl := left_lt (M := M) (A := qs.sum) rfl h0
  unfold splitL; rw [if_neg (by omega), inc_at (sortT_nodup _ _) (fun i hi => by rw [sortT_len] at hi; rw [downL_len]; exact sortT_lt _ _ hi) _ (by rw [sortT_len]; omega) _ (by rw [downL_len]; exact hi), downL_at _ _ _ hi, if_pos hi]
  rfl
theorem sumF_perm (f : Nat → Nat) (n : Nat) : sumF f n = ((List.range n).map f).sum := by
  induction n with
  | zero => rfl
  | succ n ih => rw [List.range_succ, List.map_append, List.sum_append, ← ih]; simp [sumF]
theorem sum_perm {l m : List Nat} (h : l.Perm m) : l.sum = m.sum := by
  induction h with
  | nil => rfl
  | cons x _ ih => simp [ih]
  | swap x y l => simp; omega
  | trans _ _ ih1 ih2 => exact ih1.trans ih2
theorem sum_le_const {l : List Nat} {c : Nat} (h : ∀ x, x ∈ l → x ≤ c) : l.sum ≤ c * l.length := by
  induction l with
  | nil => simp
  | cons x l ih =>
    have h1 := h x (by simp)
    have h2 := ih fun y hy => h y (by simp [hy])
    simp only [List.sum_cons, List.length_cons, Nat.mul_succ]
    omega
/-- who has a penny more has a remainder -/
theorem tk_rem (h0 : 0 < qs.sum) {i : Nat} (hi : tkS M qs i) : 0 < remN M qs.sum qs i := by
  rcases Nat.eq_zero_or_pos (remN M qs.sum qs i) with hz | hz
  · exfalso
    obtain ⟨a, ha, rfl⟩ := mem_gt hi
    have hl := left_lt (M := M) (A := qs.sum) rfl h0
    rw [List.length_take, ordS_len] at ha
    have ha2 : a < leftN M qs.sum qs qs.length := by omega
    have e : gt ((ordS M qs).take (leftN M qs.sum qs qs.length)) a = gt (ordS M qs) a := by simp [gt, List.getD, List.getElem?_take, ha2]
    rw [e] at hz
    have hs := left_rem (M := M) (A := qs.sum) rfl h0
    rw [sumF_perm, ← sum_perm (ordS_perm.map (remN M qs.sum qs)), ← List.take_append_drop a (ordS M qs), List.map_append, List.sum_append] at hs
    have h1 : ((ordS M qs).take a |>.map (remN M qs.sum qs)).sum ≤ (qs.sum - 1) * a := by
      have := sum_le_const (l := ((ordS M qs).take a).map (remN M qs.sum qs)) (c := qs.sum - 1) (fun x hx => by
        obtain ⟨y, _, rfl⟩ := List.mem_map.1 hx
        have : remN M qs.sum qs y < qs.sum := Nat.mod_lt _ h0
        omega)
      rw [List.length_map, List.length_take, ordS_len, Nat.min_eq_left (by omega)] at this
      exact this
    have h2 : ((ordS M qs).drop a |>.map (remN M qs.sum qs)).sum ≤ 0 * ((ordS M qs).drop a |>.map (remN M qs.sum qs)).length := by
      refine sum_le_const fun x hx => ?_
      obtain ⟨y, hy, rfl⟩ := List.mem_map.1 hx
      obtain ⟨b, hb, rfl⟩ := mem_gt hy
      rw [List.length_drop, ordS_len] at hb
      have e2 : gt ((ordS M qs).drop a) b = gt (ordS M qs) (a + b) := by simp [gt, List.getD, List.getElem?_drop]
      rw [e2]
      rcases Nat.eq_zero_or_pos b with hb0 | hb0
      · rw [hb0, Nat.add_zero]; omega
      · have := ordS_lex (M := M) (qs := qs) (a := a) (b := a + b) (by omega) (by omega)
        unfold lexB keyS at this
        omega
    have h3 : (qs.sum - 1) * a < leftN M qs.sum qs qs.length * qs.sum := by
      have h4 : (qs.sum - 1) * a ≤ qs.sum * a := Nat.mul_le_mul_right _ (by omega)
      have h5 : (a + 1) * qs.sum ≤ leftN M qs.sum qs qs.length * qs.sum := Nat.mul_le_mul_right _ ha2
      rw [Nat.add_mul, Nat.mul_comm a] at h5
      omega
    rw [Nat.zero_mul] at h2
    omega
  · exact hz
theorem inc_sum {l : List Nat} : ∀ js : List Nat, (∀ j, j ∈ js → j < l.length) → (incL l js).sum = l.sum + js.length := by
  intro js
  induction js generalizing l with
  | nil => intro _; simp [incL]
  | cons j js ih =>
    intro h
    have hj := h j (by simp)
    have h1 : (incL l (j :: js)) = incL (l.set j (gt l j + 1)) js := rfl
    rw [h1, ih fun i hi => by rw [List.length_set]; exact h i (by simp [hi])]
    have h2 : ∀ (l : List Nat) (j : Nat), j < l.length → (l.set j (gt l j + 1)).sum = l.sum + 1 := by
      intro l
      induction l with
      | nil => intro j hj; simp at hj
      | cons x l ih2 =>
        intro j hj
        cases j with
        | zero => simp [gt, List.getD]; omega
        | succ j =>
          have := ih2 j (by simpa using hj)
          rw [List.set_cons_succ, List.sum_cons, List.sum_cons, show gt (x :: l) (j + 1) = gt l j from rfl, this]
          omega
    rw [h2 l j hj, List.length_cons]
    omega
theorem downL_sum (M A : Nat) (qs : List Nat) (n : Nat) : (downL M A qs n n).sum = sumF (downN M A qs) n := by
  rw [sumF_perm]
  congr 1
  unfold downL
  refine List.map_congr_left fun i hi => ?_
  rw [if_pos (List.mem_range.1 hi)]
theorem split_sum (h0 : 0 < qs.sum) : (splitL M qs).sum = M := by
  have hl := left_lt (M := M) (A := qs.sum) rfl h0
  unfold splitL
  rw [if_neg (by omega), inc_sum _ (fun j hj => by
    rw [downL_len]
    obtain ⟨a, ha, rfl⟩ := mem_gt (List.mem_of_mem_take hj)
    rw [sortT_len] at ha
    exact sortT_lt _ _ ha), downL_sum, List.length_take, sortT_len, Nat.min_eq_left (by omega)]
  have := down_le (M := M) (A := qs.sum) rfl h0 (Nat.le_refl qs.length)
  unfold leftN
  omega
end
theorem split_sum_le (M : Nat) (qs : List Nat) : (splitL M qs).sum ≤ M := by
  rcases Nat.eq_zero_or_pos qs.sum with h | h
  · unfold splitL; rw [if_pos h]
    have : (List.replicate qs.length 0).sum = 0 := by simp
    omega
  · rw [split_sum h]; exact Nat.le_refl _
theorem split_pos {M : Nat} {qs : List Nat} (h0 : 0 < qs.sum) {i : Nat} (hi : i < qs.length) (h : downN M qs.sum qs i < gt (splitL M qs) i) : 0 < remN M qs.sum qs i := by
  rw [split_at h0 hi] at h
  by_cases ht : tkS M qs i
  · exact tk_rem h0 ht
  · rw [if_neg ht] at h; omega
theorem split_num {M : Nat} {qs : List Nat} (h0 : 0 < qs.sum) {i : Nat} (hi : i < qs.length) : downN M qs.sum qs i ≤ gt (splitL M qs) i ∧ gt (splitL M qs) i ≤ downN M qs.sum qs i + 1 := by
  rw [split_at h0 hi]; split <;> omega
theorem down_rem (M A : Nat) (qs : List Nat) (i : Nat) : downN M A qs i * A + remN M A qs i = M * gt qs i := by
  unfold downN remN
  rw [Nat.mul_comm (M * gt qs i / A)]
  exact Nat.div_add_mod _ _
theorem split_mono {M : Nat} {qs : List Nat} (h0 : 0 < qs.sum) {i k : Nat} (hi : i < qs.length) (hk : k < qs.length) (h : gt qs k < gt qs i) : gt (splitL M qs) k ≤ gt (splitL M qs) i := by
  have n1 := split_num (M := M) h0 hi
  have n2 := split_num (M := M) h0 hk
  have hd : downN M qs.sum qs k ≤ downN M qs.sum qs i := Nat.div_le_div_right (Nat.mul_le_mul_left M (by omega))
  rcases Nat.lt_or_ge (downN M qs.sum qs k) (downN M qs.sum qs i) with h1 | h1
  · omega
  · have e : downN M qs.sum qs k = downN M qs.sum qs i := by omega
    rw [split_at h0 hi, split_at h0 hk, e]
    by_cases tk : tkS M qs k
    · by_cases ti : tkS M qs i
      · rw [if_pos tk, if_pos ti]; exact Nat.le_refl _
      · exfalso
        have hr := tk_rem h0 tk
        have hl := tk_lex tk hi ti
        have r1 := down_rem M qs.sum qs k
        have r2 := down_rem M qs.sum qs i
        rw [e] at r1
        have hM : 0 < M := by
          rcases Nat.eq_zero_or_pos M with hz | hz
          · subst hz; rw [Nat.zero_mul] at r1; omega
          · exact hz
        have := Nat.mul_lt_mul_of_pos_left h hM
        omega
    · rw [if_neg tk]; split <;> omega
theorem split_same {M : Nat} {qs : List Nat} (h0 : 0 < qs.sum) {i k : Nat} (hi : i < qs.length) (hk : k < qs.length) (h : gt qs k = gt qs i) (hik : i < k) : gt (splitL M qs) k ≤ gt (splitL M qs) i := by
  have e : downN M qs.sum qs k = downN M qs.sum qs i := by unfold downN; rw [h]
  have er : remN M qs.sum qs k = remN M qs.sum qs i := by unfold remN; rw [h]
  rw [split_at h0 hi, split_at h0 hk, e]
  by_cases tk : tkS M qs k
  · by_cases ti : tkS M qs i
    · rw [if_pos tk, if_pos ti]; exact Nat.le_refl _
    · have hl := tk_lex tk hi ti
      omega
  · rw [if_neg tk]; split <;> omega
theorem split_rem {M : Nat} {qs : List Nat} (h0 : 0 < qs.sum) {i k : Nat} (hi : i < qs.length) (hk : k < qs.length) (h : remN M qs.sum qs k < remN M qs.sum qs i) (hL : downN M qs.sum qs k < gt (splitL M qs) k) : gt (splitL M qs) i ≠ downN M qs.sum qs i := by
  rw [split_at h0 hk] at hL
  rw [split_at h0 hi]
  by_cases tk : tkS M qs k
  · by_cases ti : tkS M qs i
    · rw [if_pos ti]; omega
    · have hl := tk_lex tk hi ti
      omega
  · rw [if_neg tk] at hL; omega
theorem split_zero {M : Nat} {qs : List Nat} (h0 : qs.sum = 0) (i : Nat) : gt (splitL M qs) i = 0 := by
  unfold splitL; rw [if_pos h0]
  rcases Nat.lt_or_ge i qs.length with h | h
  · simp [gt, List.getD, h]
  · simp [gt, List.getD, h]
/-! the greedy way -/
def bestJ (f : Nat → Int) : Nat → Nat
  | 0 => 0
  | j + 1 => if f (bestJ f j) < f j then j else bestJ f j
theorem bestJ_spec (f : Nat → Int) : ∀ n, 0 < n → bestJ f n < n ∧ (∀ i, i < n → f i ≤ f (bestJ f n)) ∧ ∀ i, i < bestJ f n → f i < f (bestJ f n) := by
  intro n
  induction n with
  | zero => intro h; omega
  | succ n ih =>
    intro _
    rcases Nat.eq_zero_or_pos n with h | h
    · subst h
      have e : bestJ f (0 + 1) = 0 := by
        simp [bestJ]
      rw [e]
      exact ⟨by omega, fun i hi => by rw [show i = 0 by omega]; exact Int.le_refl _, fun i hi => by omega⟩
    · obtain ⟨h1, h2, h3⟩ := ih h
      simp only [bestJ]
      split
      · rename_i hc
        refine ⟨by omega, fun i hi => ?_, fun i hi => ?_⟩
        · rcases Nat.lt_or_ge i n with h4 | h4
          · have := h2 i h4; omega
          · rw [show i = n by omega]; exact Int.le_refl _
        · have := h2 i hi; omega
      · rename_i hc
        refine ⟨by omega, fun i hi => ?_, h3⟩
        rcases Nat.lt_or_ge i n with h4 | h4
        · exact h2 i h4
        · rw [show i = n by omega]; omega
theorem bestJ_lt (f : Nat → Int) {i n : Nat} (h : i < n) : bestJ f i < n := by
  rcases Nat.eq_zero_or_pos i with h0 | h0
  · subst h0; exact h
  · have := (bestJ_spec f i h0).1; omega
theorem bestJ_uniq {f : Nat → Int} {n c : Nat} (hc : c < n) (h1 : ∀ i, i < n → f i ≤ f c) (h2 : ∀ i, i < c → f i < f c) : bestJ f n = c := by
  obtain ⟨a, b, d⟩ := bestJ_spec f n (by omega)
  have e1 := h1 _ a
  have e2 := b _ hc
  rcases Nat.lt_trichotomy (bestJ f n) c with h | h | h
  · have := h2 _ h; omega
  · exact h
  · have := d _ h; omega
/-- the remainders that are left after k pennies -/
def restF (M : Nat) (qs : List Nat) (k i : Nat) : Int := if i ∈ (ordS M qs).take k then -1 else (remN M qs.sum qs i : Int)
def restL (M : Nat) (qs : List Nat) (k n : Nat) : List Int := (List.range n).map (restF M qs k)
theorem best_ord {M : Nat} {qs : List Nat} {k : Nat} (hk : k < qs.length) : bestJ (restF M qs k) qs.length = gt (ordS M qs) k := by
  have hlen : (ordS M qs).length = qs.length := ordS_len
  have hnm : gt (ordS M qs) k ∉ (ordS M qs).take k := gt_nodup_mem ordS_nodup (by omega)
  have hf : restF M qs k (gt (ordS M qs) k) = (remN M qs.sum qs (gt (ordS M qs) k) : Int) := by unfold restF; rw [if_neg hnm]
  have key : ∀ i, i < qs.length → i ≠ gt (ordS M qs) k → restF M qs k i < restF M qs k (gt (ordS M qs) k) ∨ (restF M qs k i = restF M qs k (gt (ordS M qs) k) ∧ gt (ordS M qs) k < i) := fun i hi hne => by
    rw [hf]
    by_cases hm : i ∈ (ordS M qs).take k
    · left; unfold restF; rw [if_pos hm]; omega
    · have h2 : i ∉ (ordS M qs).take (k + 1) := fun h => by
        rcases (mem_take_succ (by omega)).1 h with h | h
        · exact hm h
        · exact hne h
      have h3 : lexB (keyS M qs.sum qs) (gt (ordS M qs) k) i := take_lex (m := k + 1) ((mem_take_succ (js := ordS M qs) (by omega)).2 (.inr rfl)) hi h2
      unfold restF; rw [if_neg hm]
      unfold lexB keyS at h3
      omega
  refine bestJ_uniq (ordS_lt hk) (fun i hi => ?_) (fun i hi => ?_)
  · by_cases e : i = gt (ordS M qs) k
    · rw [e]; exact Int.le_refl _
    · have := key i hi e; omega
  · have hlt := ordS_lt (M := M) hk
    have := key i (by omega) (by omega)
    omega
theorem restL_at {M : Nat} {qs : List Nat} {k n i : Nat} (hi : i < n) : gt (restL M qs k n) i = restF M qs k i := by simp [restL, gt, List.getD, hi]
theorem restL_len (M : Nat) (qs : List Nat) (k n : Nat) : (restL M qs k n).length = n := by simp [restL]
theorem restL_step {M : Nat} {qs : List Nat} {k : Nat} (hk : k < qs.length) : (restL M qs k qs.length).set (gt (ordS M qs) k) (-1) = restL M qs (k + 1) qs.length := by
  apply List.ext_getElem
  · simp [restL]
  · intro i h1 h2
    simp only [restL, List.getElem_set, List.getElem_map, List.getElem_range]
    have hlen : (ordS M qs).length = qs.length := ordS_len
    unfold restF
    by_cases e : gt (ordS M qs) k = i
    · rw [if_pos e, if_pos ((mem_take_succ (by omega)).2 (.inr e.symm))]
    · rw [if_neg e]
      by_cases hm : i ∈ (ordS M qs).take k
      · rw [if_pos hm, if_pos ((mem_take_succ (by omega)).2 (.inl hm))]
      · rw [if_neg hm, if_neg (fun h => by rcases (mem_take_succ (by omega)).1 h with h | h; exact hm h; exact e h.symm)]
end Go.Ti
/- A ticket of which more is known: no truth is new, and nothing is told less exactly. -/
namespace Go.Ti
open Go.W (gt gt_of)
def narT (w : Bool) (x : Tick) : Tick := if w then ⟨⟨min x.bought.hi (x.bought.lo + 1), x.bought.hi⟩, x.hut, x.door⟩ else ⟨x.bought, x.hut, ⟨min x.door.hi (x.door.lo + 1), x.door.hi⟩⟩
def narX (X : Till) (w : Bool) (a : Nat) : Till := ⟨⟨X.tk.huts, X.tk.l.set a (narT w (gt X.tk.l a))⟩, X.price, X.fine, X.wait⟩
def moreX (X : Till) (b : Int) : Till := ⟨X.tk, X.price, min 100 (X.fine + b % 9), min 100 (X.wait + b % 7)⟩
def inS (a b : Sp) : Bool := decide (a.lo ≥ b.lo ∧ a.hi ≤ b.hi)
section
variable {X : Till} {w : Bool} {a : Nat}
theorem nar_len : (narX X w a).tk.l.length = X.tk.l.length := by simp [narX]
theorem nar_at (ha : a < X.tk.l.length) (i : Nat) : gt (narX X w a).tk.l i = if a = i then narT w (gt X.tk.l a) else gt X.tk.l i := gt_set _ _ _ _ ha
theorem narT_in {x : Tick} (hb : x.bought.lo ≤ x.bought.hi) (hd : x.door.lo ≤ x.door.hi) : (x.bought.lo ≤ (narT w x).bought.lo ∧ (narT w x).bought.lo ≤ (narT w x).bought.hi ∧ (narT w x).bought.hi = x.bought.hi) ∧ (x.door.lo ≤ (narT w x).door.lo ∧ (narT w x).door.lo ≤ (narT w x).door.hi ∧ (narT w x).door.hi = x.door.hi) ∧ (narT w x).hut = x.hut := by
  unfold narT; cases w <;> simp <;> omega
theorem nar_valid (h : tksB X.tk = true) (ha : a < X.tk.l.length) : tksB (narX X w a).tk = true := by
  obtain ⟨h1, h2, h3⟩ := tks_num h
  refine (tksB_iff _).2 ⟨h1, by rw [nar_len]; exact h2, fun i hi => ?_⟩
  rw [nar_len] at hi
  rw [nar_at ha]
  split
  · rename_i e; subst e
    have n := h3 a ha
    have q := narT_in (w := w) (x := gt X.tk.l a) n.2.1.2.1 n.2.2.2.1
    simp only [tickB, hutT, spanT, Bool.and_eq_true, decide_eq_true_eq]
    have hh : (narX X w a).tk.huts = X.tk.huts := rfl
    rw [hh, q.2.2]
    refine ⟨⟨by omega, by omega⟩, by omega⟩
  · have n := h3 i hi
    simp only [tickB, hutT, spanT, Bool.and_eq_true, decide_eq_true_eq]
    have hh : (narX X w a).tk.huts = X.tk.huts := rfl
    rw [hh]
    refine ⟨⟨by omega, by omega⟩, by omega⟩
theorem nar_sol (h : tksB X.tk = true) (ha : a < X.tk.l.length) {t : Tru} (ht : t ∈ allT (narX X w a).tk) : t ∈ allT X.tk := by
  have hs := mem_allT.1 ht
  have h3 := (tks_num h).2.2
  have hut : ∀ i, i < X.tk.l.length → (gt (narX X w a).tk.l i).hut = (gt X.tk.l i).hut := fun i hi => by
    rw [nar_at ha]
    split
    · rename_i e; subst e
      have n := h3 a ha
      exact (narT_in (w := w) n.2.1.2.1 n.2.2.2.1).2.2
    · rfl
  refine mem_allT.2 ⟨fun i hi => ?_, fun i j hi hj hij hh => ?_, fun i hi => hs.rest i (by rw [nar_len]; exact hi)⟩
  · have hp := hs.pair i (by rw [nar_len]; exact hi)
    rw [nar_at ha] at hp
    split at hp
    · rename_i e; subst e
      have n := h3 a ha
      have q := narT_in (w := w) (x := gt X.tk.l a) n.2.1.2.1 n.2.2.2.1
      rw [pairP_iff] at hp ⊢
      omega
    · exact hp
  · exact hs.apart i j (by rw [nar_len]; exact hi) (by rw [nar_len]; exact hj) hij (by rw [hut i hi, hut j hj]; exact hh)
end
theorem span_sub {g : Tru → Int} {l l' : List Tru} (hs : ∀ t, t ∈ l' → t ∈ l) (hne : l' ≠ []) : (spanS g l).lo ≤ (spanS g l').lo ∧ (spanS g l').hi ≤ (spanS g l).hi := by
  have hne2 : l ≠ [] := fun e => by
    cases l' with
    | nil => exact hne rfl
    | cons x l' => have := hs x (by simp); rw [e] at this; cases this
  obtain ⟨⟨t1, m1, e1⟩, ⟨t2, m2, e2⟩, _⟩ := spanS_spec g hne
  obtain ⟨_, _, h⟩ := spanS_spec g hne2
  have a1 := h t1 (hs _ m1)
  have a2 := h t2 (hs _ m2)
  omega
section
variable {X : Till} {w : Bool} {a : Nat}
theorem tks_true {T : Tks} (hv : tksB T = true) : tksE T true = if (allT T).isEmpty then 10 else 0 := by
  unfold tksE; rw [if_neg (by rw [hv]; simp), if_neg (by simp)]
theorem tks_0 {T : Tks} (hv : tksB T = true) (h : tksE T true = 0) : allT T ≠ [] := (tksE_zero h).2.2
theorem nar_e (h : tksB X.tk = true) (ha : a < X.tk.l.length) (he : tksE (narX X w a).tk true = 0) : tksE X.tk true = 0 := by
  have hv' := nar_valid (w := w) h ha
  have hne := tks_0 hv' he
  rw [tks_true h, if_neg]
  rw [List.isEmpty_iff]
  intro e
  cases hl : allT (narX X w a).tk with
  | nil => exact hne hl
  | cons t l =>
    have : t ∈ allT X.tk := nar_sol h ha (by rw [hl]; simp)
    rw [e] at this; cases this
theorem any_sub {l l' : List Tru} (hs : ∀ t, t ∈ l' → t ∈ l) {f : Tru → Bool} (h : l'.any f = true) : l.any f = true := by
  obtain ⟨t, ht, hf⟩ := List.any_eq_true.1 h
  exact List.any_eq_true.2 ⟨t, hs t ht, hf⟩
theorem any_some {l : List Tru} (hne : l ≠ []) (f : Tru → Bool) : l.any f = true ∨ l.any (fun t => !f t) = true := by
  cases l with
  | nil => exact absurd rfl hne
  | cons x l =>
    cases hf : f x
    · right; exact List.any_eq_true.2 ⟨x, by simp, by simp [hf]⟩
    · left; exact List.any_eq_true.2 ⟨x, by simp, hf⟩
theorem turn_0 {T : Tks} {n : Int} (hn : isT T n = true) (he : tksE T true = 0) : TurnOut T n = (gradeI ((allT T).any fun t => turnT T.l.length t n.toNat) ((allT T).any fun t => !turnT T.l.length t n.toNat), 0) := by
  unfold TurnOut; rw [hn, if_neg (by rw [he]; simp)]
theorem grade_2 {a b : Bool} : gradeI a b = 2 ↔ a = true ∧ b = false := by cases a <;> cases b <;> decide
theorem grade_0 {a b : Bool} : gradeI a b = 0 ↔ a = false ∧ b = true := by cases a <;> cases b <;> decide
theorem nar_turn (h : tksB X.tk = true) (ha : a < X.tk.l.length) (he : tksE (narX X w a).tk true = 0) {n : Int} (hn : isT X.tk n = true) :
    ((TurnOut X.tk n).1 = 2 → (TurnOut (narX X w a).tk n).1 = 2) ∧ ((TurnOut X.tk n).1 = 0 → (TurnOut (narX X w a).tk n).1 = 0) := by
  have he0 := nar_e h ha he
  have hn' : isT (narX X w a).tk n = true := by unfold isT; rw [nar_len]; exact hn
  have hne := tks_0 (nar_valid (w := w) h ha) he
  rw [turn_0 hn he0, turn_0 hn' he, nar_len]
  simp only [grade_2, grade_0]
  have hs : ∀ t, t ∈ allT (narX X w a).tk → t ∈ allT X.tk := fun t => nar_sol h ha
  constructor
  · rintro ⟨_, h2⟩
    have h3 : ((allT (narX X w a).tk).any fun t => !turnT X.tk.l.length t n.toNat) = false := by
      cases hc : ((allT (narX X w a).tk).any fun t => !turnT X.tk.l.length t n.toNat) with
      | false => rfl
      | true => rw [any_sub hs hc] at h2; cases h2
    refine ⟨?_, h3⟩
    rcases any_some hne (fun t => turnT X.tk.l.length t n.toNat) with h4 | h4
    · exact h4
    · rw [h3] at h4; cases h4
  · rintro ⟨h1, _⟩
    have h3 : ((allT (narX X w a).tk).any fun t => turnT X.tk.l.length t n.toNat) = false := by
      cases hc : ((allT (narX X w a).tk).any fun t => turnT X.tk.l.length t n.toNat) with
      | false => rfl
      | true => rw [any_sub hs hc] at h1; cases h1
    refine ⟨h3, ?_⟩
    rcases any_some hne (fun t => turnT X.tk.l.length t n.toNat) with h4 | h4
    · rw [h3] at h4; cases h4
    · exact h4
theorem nar_fine (hb : tillB X = true) (ha : a < X.tk.l.length) (he : tksE (narX X w a).tk true = 0) {n : Int} (hn : isT X.tk n = true) : inS (fineSp (narX X w a) n) (fineSp X n) = true := by
  have ht := nar_turn (tillB_num hb).1 ha he hn
  have hf := (tillB_num hb).2.2.1
  refine decide_eq_true ?_
  unfold fineSp
  simp only [show (narX X w a).fine = X.fine from rfl]
  by_cases h2 : (TurnOut X.tk n).1 = 2
  · have q := ht.1 h2
    rw [h2, q]; simp
  · by_cases h0 : (TurnOut X.tk n).1 = 0
    · have q := ht.2 h0
      rw [h0, q]; simp
    · rw [if_pos h0, if_neg h2]
      constructor
      · split <;> omega
      · split <;> omega
theorem minutes_0 {T : Tks} {n : Int} (hn : isT T n = true) (he : tksE T true = 0) : MinutesOut T n = (spanS (fun t => (t n.toNat).1) (allT T), spanS (fun t => (t n.toNat).2) (allT T), 0) := by
  unfold MinutesOut; rw [hn, if_neg (by rw [he]; simp)]
theorem nar_waits (h : tksB X.tk = true) (ha : a < X.tk.l.length) (he : tksE (narX X w a).tk true = 0) {n : Int} (hn : isT X.tk n = true) : (waitsSp X.tk n).lo ≤ (waitsSp (narX X w a).tk n).lo ∧ (waitsSp (narX X w a).tk n).hi ≤ (waitsSp X.tk n).hi := by
  have he0 := nar_e h ha he
  have hn' : isT (narX X w a).tk n = true := by unfold isT; rw [nar_len]; exact hn
  have hne := tks_0 (nar_valid (w := w) h ha) he
  have hs : ∀ t, t ∈ allT (narX X w a).tk → t ∈ allT X.tk := fun t => nar_sol h ha
  have s1 := span_sub (g := fun t => (t n.toNat).1) hs hne
  have s2 := span_sub (g := fun t => (t n.toNat).2) hs hne
  have m1 := minutes_num X.tk n
  have m2 := minutes_num (narX X w a).tk n
  unfold waitsSp
  rw [minutes_0 hn he0] at m1 ⊢
  rw [minutes_0 hn' he] at m2 ⊢
  simp only at m1 m2 ⊢
  omega
theorem mul_mono {c x y : Int} (hc : 0 ≤ c) (h : x ≤ y) : c * x ≤ c * y := Int.mul_le_mul_of_nonneg_left h hc
theorem nar_back (hb : tillB X = true) (ha : a < X.tk.l.length) (he : tksE (narX X w a).tk true = 0) {n : Int} (hn : isT X.tk n = true) : inS (backSp (narX X w a) n) (backSp X n) = true := by
  have hw := nar_waits (tillB_num hb).1 ha he hn
  have hwt := (tillB_num hb).2.2.2
  exact decide_eq_true ⟨mul_mono hwt.1 hw.1, mul_mono hwt.1 hw.2⟩
theorem nar_fines (hb : tillB X = true) (ha : a < X.tk.l.length) (he : tksE (narX X w a).tk true = 0) : inS ⟨(WrongOut (narX X w a).tk).1.lo * X.fine, (WrongOut (narX X w a).tk).1.hi * X.fine⟩ ⟨(WrongOut X.tk).1.lo * X.fine, (WrongOut X.tk).1.hi * X.fine⟩ = true := by
  have h := (tillB_num hb).1
  have hf := (tillB_num hb).2.2.1
  have he0 := nar_e h ha he
  have hne := tks_0 (nar_valid (w := w) h ha) he
  have hs : ∀ t, t ∈ allT (narX X w a).tk → t ∈ allT X.tk := fun t => nar_sol h ha
  have s1 := span_sub (g := oddT X.tk.l.length) hs hne
  have e1 : (WrongOut X.tk).1 = spanS (oddT X.tk.l.length) (allT X.tk) := by unfold WrongOut; rw [if_neg (by rw [he0]; simp)]
  have e2 : (WrongOut (narX X w a).tk).1 = spanS (oddT X.tk.l.length) (allT (narX X w a).tk) := by unfold WrongOut; rw [if_neg (by rw [he]; simp), nar_len]
  rw [e1, e2]
  exact decide_eq_true ⟨Int.mul_le_mul_of_nonneg_right s1.1 hf.1, Int.mul_le_mul_of_nonneg_right s1.2 hf.1⟩
theorem nar_can (hb : tillB X = true) (ha : a < X.tk.l.length) (he : tksE (narX X w a).tk true = 0) {n m : Int} (hn : isT X.tk n = true) {k : Nat} (hc : canOf (narX X w a) n m k = true) : canOf X n m k = true := by
  have hn' : isT (narX X w a).tk n = true := by unfold isT; rw [nar_len]; exact hn
  unfold canOf at hc ⊢
  split at hc
  · simp only [priceCan, Bool.and_eq_true] at hc ⊢
    exact ⟨hc.1, hn⟩
  · simp only [fineCan, Bool.and_eq_true, decide_eq_true_eq] at hc ⊢
    refine ⟨fun e => hc.1 ((nar_turn (tillB_num hb).1 ha he hn).1 e), hc.2.1, hn⟩
  · have hw := nar_waits (tillB_num hb).1 ha he hn
    obtain ⟨k, hk, hm⟩ := List.any_eq_true.1 hc
    have h1 := mem_rng.1 hk
    exact List.any_eq_true.2 ⟨k, mem_rng.2 ⟨by omega, by omega⟩, hm⟩
theorem check_4 {l : List Ent} : (CheckOut X l).2.2 = 4 ↔ toldE X l = 0 ∧ brokL X l l.length = [] := by
  unfold CheckOut
  have ht : toldE X l = 0 ∨ toldE X l = 1 ∨ toldE X l = 2 ∨ toldE X l = 3 ∨ toldE X l = 10 := by
    unfold toldE tillE tksE
    repeat' split
    all_goals simp
  split
  · rename_i h; simp only; constructor
    · intro h4; omega
    · rintro ⟨h1, _⟩; exact absurd h1 h
  · rename_i h
    have h0 : toldE X l = 0 := Classical.not_not.1 h
    split
    · rename_i hb; simp [h0, hb]
    · rename_i hb; simp [hb]
theorem nar_check (hb : tillB X = true) (ha : a < X.tk.l.length) (he : tksE (narX X w a).tk true = 0) {l : List Ent} (hE : tillE X l true = 0) (h4 : (CheckOut (narX X w a) l).2.2 = 4) : (CheckOut X l).2.2 = 4 := by
  have hv := (tillB_num hb).1
  have he0 := nar_e hv ha he
  obtain ⟨_, hn⟩ := check_4.1 h4
  have hz := brok_nil hn
  have hent := (tillE_all hE).2.2.2
  refine check_4.2 ⟨?_, ?_⟩
  · unfold toldE; rw [if_neg (by rw [hE]; simp)]; exact he0
  · unfold brokL
    rw [List.filter_eq_nil_iff]
    intro i hi
    have hi := List.mem_range.1 hi
    have h1 := hz i hi
    have hb2 : bookedB (l.take i) (gt l i).ticket (gt l i).kind = false := by
      unfold ruleI at h1
      cases hbk : bookedB (l.take i) (gt l i).ticket (gt l i).kind with
      | false => rfl
      | true => rw [hbk, if_pos rfl] at h1; omega
    have hti : isT X.tk (gt l i).ticket = true := by
      have := hent i hi
      unfold entB at this
      rw [Bool.and_eq_true] at this
      exact this.1
    have hc := nar_can hb ha he hti (rule_zero h1)
    have : ruleI X l i = 0 := by
      unfold ruleI; rw [hb2, if_neg (by simp), if_neg (by rw [hc]; simp)]
    simp [this]
theorem tillB_of {X : Till} (h : tksB X.tk = true) (h1 : 0 ≤ X.price ∧ X.price ≤ 100) (h2 : 0 ≤ X.fine ∧ X.fine ≤ 100) (h3 : 0 ≤ X.wait ∧ X.wait ≤ 100) : tillB X = true := by
  unfold tillB inB
  rw [h, decide_eq_true h1, decide_eq_true h2, decide_eq_true h3]; rfl
theorem nar_tillE (hb : tillB X = true) (ha : a < X.tk.l.length) (l : List Ent) (is : Bool) : tillE (narX X w a) l is = tillE X l is := by
  have hb' : tillB (narX X w a) = true := by
    have h := tillB_num hb
    have hv := nar_valid (w := w) h.1 ha
    exact tillB_of hv h.2.1 h.2.2.1 h.2.2.2
  have hent : entB (narX X w a) = entB X := by
    funext e
    unfold entB isT
    rw [nar_len]
  unfold tillE
  rw [hb, hb', hent]
theorem more_valid (hb : tillB X = true) {b : Int} (h0 : 0 ≤ b) : tillB (moreX X b) = true := by
  have h := tillB_num hb
  have h9 := Int.emod_nonneg b (show (9 : Int) ≠ 0 by decide)
  have h7 := Int.emod_nonneg b (show (7 : Int) ≠ 0 by decide)
  exact tillB_of (X := moreX X b) h.1 h.2.1 (by show 0 ≤ min 100 (X.fine + b % 9) ∧ min 100 (X.fine + b % 9) ≤ 100; omega) (by show 0 ≤ min 100 (X.wait + b % 7) ∧ min 100 (X.wait + b % 7) ≤ 100; omega)
theorem more_fine (b n : Int) : (fineSp (moreX X b) n).lo * X.fine = (fineSp X n).lo * (moreX X b).fine ∧ (fineSp (moreX X b) n).hi * X.fine = (fineSp X n).hi * (moreX X b).fine := by
  unfold fineSp
  simp only [show (moreX X b).tk = X.tk from rfl]
  constructor
  · split
    · simp
    · rw [Int.mul_comm]
  · split
    · simp
    · rw [Int.mul_comm]
theorem more_back (b n : Int) : (backSp (moreX X b) n).lo * X.wait = (backSp X n).lo * (moreX X b).wait ∧ (backSp (moreX X b) n).hi * X.wait = (backSp X n).hi * (moreX X b).wait := by
  unfold backSp
  simp only [show (moreX X b).tk = X.tk from rfl]
  constructor
  · rw [Int.mul_assoc, Int.mul_comm, Int.mul_comm X.wait]
  · rw [Int.mul_assoc, Int.mul_comm, Int.mul_comm X.wait]
end
end Go.Ti
/- Books that are right: in any order, without an entry, and with one again; the first entry that breaks a rule. -/
namespace Go.Ti
open Go.W (gt gt_of)
def sameK (a b : Ent) : Prop := a.ticket = b.ticket ∧ a.kind = b.kind
theorem booked_iff {l : List Ent} {t k : Int} : bookedB l t k = true ↔ ∃ e, e ∈ l ∧ e.ticket = t ∧ e.kind = k := by
  unfold bookedB
  simp only [List.any_eq_true, decide_eq_true_eq]
def RightB (X : Till) (l : List Ent) : Prop := l.Pairwise (fun a b => ¬ sameK a b) ∧ ∀ e, e ∈ l → canOf X e.ticket e.pence e.kind.toNat = true
theorem gt_take {l : List Ent} {i j : Nat} (h : j < i) : gt (l.take i) j = gt l j := by simp [gt, List.getD, List.getElem?_take, h]
theorem rule_take {X : Till} {l : List Ent} {i j : Nat} (h : j < i) : ruleI X (l.take i) j = ruleI X l j := by
  unfold ruleI
  rw [gt_take h, List.take_take, Nat.min_eq_left (by omega)]
theorem right_of {X : Till} : ∀ {l : List Ent}, (∀ i, i < l.length → ruleI X l i = 0) → RightB X l := by
  intro l h
  refine ⟨?_, fun e he => ?_⟩
  · rw [List.pairwise_iff_getElem]
    intro i j hi hj hij hs
    have h0 := h j hj
    unfold ruleI at h0
    have ei : gt l i = l[i] := by simp [gt, List.getD, hi]
    have ej : gt l j = l[j] := by simp [gt, List.getD, hj]
    have hb : bookedB (l.take j) (gt l j).ticket (gt l j).kind = true := booked_iff.2 ⟨l[i], by
      have : gt (l.take j) i ∈ l.take j := gt_mem (by rw [List.length_take]; omega)
      rw [gt_take hij, ei] at this
      exact this, by rw [ej]; exact hs.1, by rw [ej]; exact hs.2⟩
    rw [hb, if_pos rfl] at h0
    omega
  · obtain ⟨i, hi, rfl⟩ := mem_gt he
    exact rule_zero (h i hi)
theorem right_rule {X : Till} {l : List Ent} (h : RightB X l) {i : Nat} (hi : i < l.length) : ruleI X l i = 0 := by
  have hb : bookedB (l.take i) (gt l i).ticket (gt l i).kind = false := by
    cases hc : bookedB (l.take i) (gt l i).ticket (gt l i).kind with
    | false => rfl
    | true =>
      exfalso
      obtain ⟨e, he, h1, h2⟩ := booked_iff.1 hc
      obtain ⟨j, hj, rfl⟩ := mem_gt he
      rw [List.length_take] at hj
      rw [gt_take (by omega)] at h1 h2
      have hp := List.pairwise_iff_getElem.1 h.1 j i (by omega) hi (by omega)
      have ei : gt l i = l[i] := by simp [gt, List.getD, hi]
      have ej : gt l j = l[j] := by simp [gt, List.getD, show j < l.length by omega]
      rw [ei, ej] at h1 h2
      exact hp ⟨h1, h2⟩
  unfold ruleI
  rw [hb, if_neg (by simp), if_neg (by rw [h.2 _ (gt_mem hi)]; simp)]
theorem brok_right {X : Till} {l : List Ent} : brokL X l l.length = [] ↔ RightB X l := by
  constructor
  · intro h; exact right_of (brok_nil h)
  · intro h
    unfold brokL
    rw [List.filter_eq_nil_iff]
    intro i hi
    simp [right_rule h (List.mem_range.1 hi)]
theorem right_perm {X : Till} {l m : List Ent} (hp : l.Perm m) (h : RightB X l) : RightB X m :=
  ⟨(hp.pairwise_iff (fun {a b} h hs => h ⟨hs.1.symm, hs.2.symm⟩)).1 h.1, fun e he => h.2 e (hp.mem_iff.2 he)⟩
theorem right_sub {X : Till} {l m : List Ent} (hs : m.Sublist l) (h : RightB X l) : RightB X m := ⟨h.1.sublist hs, fun e he => h.2 e (hs.subset he)⟩
theorem brok_cons {X : Till} {l : List Ent} {n i : Nat} {r : List Nat} (h : brokL X l n = i :: r) : i < n ∧ ruleI X l i ≠ 0 ∧ brokL X l i = [] := by
  have hm : i ∈ brokL X l n := by rw [h]; simp
  unfold brokL at hm
  rw [List.mem_filter] at hm
  have hin := List.mem_range.1 hm.1
  have hr : ruleI X l i ≠ 0 := by simpa using hm.2
  refine ⟨hin, hr, ?_⟩
  obtain ⟨post, e⟩ := brok_split X l hin hr
  rw [h] at e
  cases hb : brokL X l i with
  | nil => rfl
  | cons a b =>
    exfalso
    rw [hb] at e
    simp only [List.cons_append, List.cons.injEq] at e
    obtain ⟨e1, _⟩ := e
    subst e1
    have : i ∈ brokL X l i := by rw [hb]; simp
    unfold brokL at this
    rw [List.mem_filter] at this
    have := List.mem_range.1 this.1
    omega
theorem brok_take {X : Till} {l : List Ent} {i : Nat} (hi : i ≤ l.length) : brokL X (l.take i) (l.take i).length = brokL X l i := by
  rw [List.length_take, Nat.min_eq_left hi]
  unfold brokL
  refine List.filter_congr fun j hj => ?_
  rw [rule_take (List.mem_range.1 hj)]
theorem toldE_eq {X : Till} {l : List Ent} (h : tillE X l true = 0) : toldE X l = tksE X.tk true := by unfold toldE; rw [if_neg (by rw [h]; simp)]
theorem toldE_ok {X : Till} {l : List Ent} (hb : tillB X = true) (h3 : l.length ≤ 20) (ha : l.all (entB X) = true) : toldE X l = tksE X.tk true := toldE_eq (tillE_0 hb h3 rfl (all_iff.1 ha))
theorem rule_one {X : Till} {l : List Ent} {i : Nat} : ruleI X l i = 1 ↔ bookedB (l.take i) (gt l i).ticket (gt l i).kind = true := by
  unfold ruleI
  cases hb : bookedB (l.take i) (gt l i).ticket (gt l i).kind with
  | true => simp
  | false =>
    simp only [Bool.false_eq_true, if_false, iff_false]
    split <;> omega
theorem all_perm {p : Ent → Bool} {l m : List Ent} (hp : l.Perm m) (h : l.all p = true) : m.all p = true := by
  rw [List.all_eq_true] at h ⊢
  exact fun x hx => h x (hp.mem_iff.2 hx)
theorem all_subl {p : Ent → Bool} {l m : List Ent} (hs : m.Sublist l) (h : l.all p = true) : m.all p = true := by
  rw [List.all_eq_true] at h ⊢
  exact fun x hx => h x (hs.subset hx)
section
variable {X : Till} {l : List Ent}
theorem check_right (hb : tillB X = true) (h3 : l.length ≤ 20) (ha : l.all (entB X) = true) (hW : tksE X.tk true = 0) (h : RightB X l) : CheckOut X l = (0, 0, 4) := by
  unfold CheckOut
  rw [toldE_ok hb h3 ha, hW, if_neg (by simp), brok_right.2 h]
theorem sum_right (hb : tillB X = true) (h3 : l.length ≤ 20) (ha : l.all (entB X) = true) (hW : tksE X.tk true = 0) (h : RightB X l) : SumOut X l = (((List.range l.length).map fun i => signI (gt l i)).sum, 0) := by
  unfold SumOut
  rw [toldE_ok hb h3 ha, hW, if_neg (by simp), brok_right.2 h, if_neg (by simp)]
theorem sum_list (l : List Ent) : ((List.range l.length).map fun i => signI (gt l i)).sum = (l.map signI).sum := by
  congr 1
  apply List.ext_getElem
  · simp
  · intro i h1 h2
    simp at h1
    simp [gt, List.getD, h1]
theorem sumI_perm {l m : List Int} (h : l.Perm m) : l.sum = m.sum := by
  induction h with
  | nil => rfl
  | cons x _ ih => simp [ih]
  | swap x y l => simp; omega
  | trans _ _ ih1 ih2 => exact ih1.trans ih2
/-- the first entry that breaks a rule -/
theorem check_first (hb : tillB X = true) (h3 : l.length ≤ 20) (ha : l.all (entB X) = true) (hW : tksE X.tk true = 0) {i : Nat} {r : List Nat} (h : brokL X l l.length = i :: r) :
    CheckOut X l = ((i : Int), ruleI X l i, 0) ∧ SumOut X l = (0, 11) ∧ i < l.length ∧ CheckOut X (l.take i) = (0, 0, 4) ∧ CheckOut X (l.take (i + 1)) = ((i : Int), ruleI X l i, 0) ∧ (ruleI X l i = 1 ∨ ruleI X l i = 2) := by
  obtain ⟨hi, hr, hn⟩ := brok_cons h
  have t0 := toldE_ok hb h3 ha
  have t1 := toldE_ok (l := l.take i) hb (by rw [List.length_take]; omega) (all_subl (List.take_sublist _ _) ha)
  have t2 := toldE_ok (l := l.take (i + 1)) hb (by rw [List.length_take]; omega) (all_subl (List.take_sublist _ _) ha)
  refine ⟨?_, ?_, hi, ?_, ?_, ?_⟩
  · unfold CheckOut; rw [t0, hW, if_neg (by simp), h]
  · unfold SumOut; rw [t0, hW, if_neg (by simp), if_pos (by rw [h]; simp)]
  · unfold CheckOut; rw [t1, hW, if_neg (by simp), brok_take (by omega), hn]
  · unfold CheckOut; rw [t2, hW, if_neg (by simp), brok_take (by omega), brok_succ, hn, if_pos hr]
    show ((i : Int), ruleI X (l.take (i + 1)) i, (0 : Int)) = _
    rw [rule_take (by omega)]
  · rcases rule_cases X l i with h0 | h0
    · exact absurd h0 hr
    · exact h0
/-- an entry that is booked again -/
theorem check_again (hb : tillB X = true) (h3 : l.length < 20) (ha : l.all (entB X) = true) (hW : tksE X.tk true = 0) (h : RightB X l) {i : Nat} (hi : i < l.length) : CheckOut X (l ++ [gt l i]) = ((l.length : Int), 1, 0) := by
  have ha2 : (l ++ [gt l i]).all (entB X) = true := by
    rw [List.all_append, ha]
    simp only [List.all_cons, List.all_nil, Bool.and_true, Bool.true_and]
    exact all_iff.1 ha i hi
  have t := toldE_ok (l := l ++ [gt l i]) hb (by simp; omega) ha2
  have hn : brokL X (l ++ [gt l i]) l.length = [] := by
    have := brok_take (X := X) (l := l ++ [gt l i]) (i := l.length) (by simp)
    rw [List.take_left] at this
    rw [← this]
    exact brok_right.2 h
  have hg : gt (l ++ [gt l i]) l.length = gt l i := by simp [gt, List.getD]
  have hr : ruleI X (l ++ [gt l i]) l.length = 1 := rule_one.2 (by
    rw [List.take_left, hg]
    exact booked_iff.2 ⟨gt l i, gt_mem hi, rfl, rfl⟩)
  unfold CheckOut
  rw [t, hW, if_neg (by simp), List.length_append, List.length_singleton, brok_succ, hn, hr, if_pos (by decide)]
  show ((l.length : Int), ruleI X (l ++ [gt l i]) l.length, (0 : Int)) = _
  rw [hr]
end
end Go.Ti
/- What is missing, booked. -/
namespace Go.Ti
open Go.W (gt gt_of)
def dueE (X : Till) (i k : Nat) : Ent := ⟨(i : Int), (k : Int), (spanOf X (i : Int) k).lo⟩
def addT (X : Till) (l : List Ent) (i k : Nat) : List Ent := if missB X l k i then [dueE X i k] else []
def fullK (X : Till) (l : List Ent) (i : Nat) (F : List Ent) : Nat → List Ent
  | 0 => F
  | k + 1 => fullK X l i F k ++ addT X l i (k + 1)
def fullL (X : Till) (l : List Ent) : Nat → List Ent
  | 0 => l
  | i + 1 => fullK X l i (fullL X l i) 3
structure FullI (X : Till) (l : List Ent) (i k : Nat) (F : List Ent) : Prop where
  sub : l.Sublist F
  inn : ∀ e, e ∈ F → e ∈ l ∨ ∃ a j : Nat, (a < i ∨ a = i ∧ j < k) ∧ e.ticket = (a : Int) ∧ e.kind = ((j + 1 : Nat) : Int)
  has : ∀ a j : Nat, (a < i ∨ a = i ∧ j < k) → j < 3 → missB X l (j + 1) a = true → bookedB F (a : Int) ((j + 1 : Nat) : Int) = true
  rt : RightB X l → RightB X F
  ok : F.all (entB X) = true
  len : F.length ≤ l.length + 3 * i + k
theorem right_app {X : Till} {F : List Ent} {e : Ent} (h : RightB X F) (hn : bookedB F e.ticket e.kind = false) (hc : canOf X e.ticket e.pence e.kind.toNat = true) : RightB X (F ++ [e]) := by
  refine ⟨?_, ?_⟩
  · rw [List.pairwise_append]
    refine ⟨h.1, List.pairwise_singleton _ _, ?_⟩
    intro a ha b hb
    rw [List.mem_singleton] at hb
    subst hb
    intro hs
    have : bookedB F b.ticket b.kind = true := booked_iff.2 ⟨a, ha, hs.1, hs.2⟩
    rw [hn] at this; cases this
  · intro a ha
    rcases List.mem_append.1 ha with h1 | h1
    · exact h.2 a h1
    · rw [List.mem_singleton] at h1; subst h1; exact hc
theorem miss_iff {X : Till} {l : List Ent} {k n : Nat} : missB X l k n = true ↔ bookedB l (n : Int) (k : Int) = false ∧ (k = 1 ∨ (spanOf X (n : Int) k).lo > 0) := by
  unfold missB
  rw [Bool.and_eq_true, Bool.or_eq_true, decide_eq_true_eq, decide_eq_true_eq]
  cases bookedB l (n : Int) (k : Int) <;> simp
theorem can_due {X : Till} {l : List Ent} (hb : tillB X = true) {i k : Nat} (hi : i < X.tk.l.length) (hk : 1 ≤ k ∧ k ≤ 3) (h : missB X l k i = true) : canOf X (i : Int) (spanOf X (i : Int) k).lo k = true := by
  have h2 := (miss_iff.1 h).2
  have hT : isT X.tk (i : Int) = true := decide_eq_true (by omega)
  rcases (show k = 1 ∨ k = 2 ∨ k = 3 by omega) with rfl | rfl | rfl
  · simp [canOf, spanOf, priceCan, priceSp, hT]
  · have h3 : (fineSp X (i : Int)).lo > 0 := by
      rcases h2 with h2 | h2
      · omega
      · exact h2
    simp only [fineSp] at h3
    simp only [canOf, spanOf, fineCan, fineSp, hT, Bool.and_true, Bool.and_eq_true, decide_eq_true_eq]
    split at h3
    · omega
    · rename_i h4
      rw [if_neg h4]
      exact ⟨by omega, rfl⟩
  · have hm := minutes_num X.tk (i : Int)
    show backCan X (i : Int) (backSp X (i : Int)).lo = true
    unfold backCan
    refine List.any_eq_true.2 ⟨(waitsSp X.tk (i : Int)).lo, mem_rng.2 ⟨Int.le_refl _, ?_⟩, decide_eq_true ?_⟩
    · simp only [waitsSp]; omega
    · exact Int.mul_comm _ _
theorem full_step {X : Till} {l : List Ent} (hb : tillB X = true) {i k : Nat} (hi : i < X.tk.l.length) (hk : k < 3) {F : List Ent} (h : FullI X l i k F) : FullI X l i (k + 1) (F ++ addT X l i (k + 1)) := by
  by_cases hm : missB X l (k + 1) i = true
  · have hn : bookedB F (i : Int) ((k + 1 : Nat) : Int) = false := by
      by_cases hq : bookedB F (i : Int) ((k + 1 : Nat) : Int) = true
      · obtain ⟨e, he, h1, h2⟩ := booked_iff.1 hq
        rcases h.inn e he with h3 | ⟨a, j, h3, h4, h5⟩
        · have h6 := (miss_iff.1 hm).1
          rw [booked_iff.2 ⟨e, h3, h1, h2⟩] at h6; cases h6
        · omega
      · simpa using hq
    have ha : addT X l i (k + 1) = [dueE X i (k + 1)] := by unfold addT; rw [if_pos hm]
    rw [ha]
    refine ⟨h.sub.trans (List.sublist_append_left _ _), ?_, ?_, ?_, ?_, ?_⟩
    · intro e he
      rcases List.mem_append.1 he with h1 | h1
      · rcases h.inn e h1 with h2 | ⟨a, j, h2, h3⟩
        · exact .inl h2
        · exact .inr ⟨a, j, by omega, h3⟩
      · rw [List.mem_singleton] at h1; subst h1
        exact .inr ⟨i, k, by omega, rfl, rfl⟩
    · intro a j hj h3 hmm
      by_cases hl : a < i ∨ a = i ∧ j < k
      · obtain ⟨e, he, h4⟩ := booked_iff.1 (h.has a j hl h3 hmm)
        exact booked_iff.2 ⟨e, List.mem_append_left _ he, h4⟩
      · have h1 : a = i := by omega
        have h2 : j = k := by omega
        subst h1; subst h2
        exact booked_iff.2 ⟨dueE X a (j + 1), by simp, rfl, rfl⟩
    · intro hr
      exact right_app (h.rt hr) hn (can_due hb hi (by omega) hm)
    · rw [List.all_append, h.ok]
      simp only [List.all_cons, List.all_nil, Bool.and_true, Bool.true_and]
      have hT : isT X.tk (i : Int) = true := decide_eq_true (by omega)
      have hI : inB ((k + 1 : Nat) : Int) 1 3 = true := decide_eq_true (by omega)
      show (isT X.tk (i : Int) && inB ((k + 1 : Nat) : Int) 1 3) = true
      rw [hT, hI]; rfl
    · have := h.len
      rw [List.length_append, List.length_singleton]; omega
  · have ha : addT X l i (k + 1) = [] := by unfold addT; rw [if_neg hm]
    rw [ha, List.append_nil]
    refine ⟨h.sub, ?_, ?_, h.rt, h.ok, by have := h.len; omega⟩
    · intro e he
      rcases h.inn e he with h2 | ⟨a, j, h2, h3⟩
      · exact .inl h2
      · exact .inr ⟨a, j, by omega, h3⟩
    · intro a j hj h3 hmm
      by_cases hl : a < i ∨ a = i ∧ j < k
      · exact h.has a j hl h3 hmm
      · have h1 : a = i := by omega
        have h2 : j = k := by omega
        subst h1; subst h2
        exact absurd hmm hm
theorem full_roll {X : Till} {l : List Ent} {i : Nat} {F : List Ent} (h : FullI X l i 3 F) : FullI X l (i + 1) 0 F := by
  refine ⟨h.sub, ?_, ?_, h.rt, h.ok, by have := h.len; omega⟩
  · intro e he
    rcases h.inn e he with h2 | ⟨a, j, h2, h3⟩
    · exact .inl h2
    · exact .inr ⟨a, j, by omega, h3⟩
  · intro a j hj h3 hmm
    exact h.has a j (by omega) h3 hmm
theorem full_zero {X : Till} {l : List Ent} (h4 : l.all (entB X) = true) : FullI X l 0 0 l :=
  ⟨List.Sublist.refl _, fun e he => .inl he, fun a j hj => by omega, id, h4, by omega⟩
theorem full_k {X : Till} {l : List Ent} (hb : tillB X = true) {i : Nat} (hi : i < X.tk.l.length) {F : List Ent} (h : FullI X l i 0 F) : ∀ k, k ≤ 3 → FullI X l i k (fullK X l i F k) := by
  intro k
  induction k with
  | zero => intro _; exact h
  | succ k ih => intro hk; exact full_step hb hi (by omega) (ih (by omega))
theorem full_law {X : Till} {l : List Ent} (hb : tillB X = true) (h4 : l.all (entB X) = true) : ∀ i, i ≤ X.tk.l.length → FullI X l i 0 (fullL X l i) := by
  intro i
  induction i with
  | zero => intro _; exact full_zero h4
  | succ i ih => intro hi; exact full_roll (full_k hb (by omega) (ih (by omega)) 3 (Nat.le_refl _))
theorem bits_zero {f : Nat → Bool} : ∀ {n}, (∀ i, i < n → f i = false) → bitsI f n = 0 := by
  intro n
  induction n with
  | zero => intro _; rfl
  | succ n ih => intro h; unfold bitsI; rw [ih fun i hi => h i (by omega), h n (by omega)]; rfl
theorem bits_test (f : Nat → Bool) : ∀ n i, (bitsI f n).testBit i = (decide (i < n) && f i) := by
  intro n
  induction n with
  | zero => intro i; simp [bitsI]
  | succ n ih =>
    intro i
    have hlt := bits_lt f n
    have hlt2 := bits_lt f (n + 1)
    rcases Nat.lt_trichotomy i n with h | h | h
    · unfold bitsI
      by_cases hf : f n = true
      · rw [if_pos hf, Nat.add_comm, Nat.testBit_two_pow_add_gt h, ih, decide_eq_true h, decide_eq_true (show i < n + 1 by omega)]
      · rw [if_neg hf, Nat.add_zero, ih, decide_eq_true h, decide_eq_true (show i < n + 1 by omega)]
    · subst h
      unfold bitsI
      by_cases hf : f i = true
      · rw [if_pos hf, Nat.add_comm, Nat.testBit_two_pow_add_eq, Nat.testBit_lt_two_pow hlt, hf]; simp
      · rw [if_neg hf, Nat.add_zero, Nat.testBit_lt_two_pow hlt]; simp [hf]
    · rw [Nat.testBit_lt_two_pow (Nat.lt_of_lt_of_le hlt2 (Nat.pow_le_pow_right (by omega) (by omega))), decide_eq_false (by omega)]; rfl
theorem bit_at (f : Nat → Bool) {n i : Nat} (hi : i < n) : bitsI f n / 2 ^ i % 2 = if f i then 1 else 0 := by
  have h := bits_test f n i
  rw [Nat.testBit_eq_decide_div_mod_eq, decide_eq_true hi, Bool.true_and] at h
  have h2 : bitsI f n / 2 ^ i % 2 < 2 := Nat.mod_lt _ (by omega)
  cases hf : f i with
  | true => rw [hf] at h; rw [if_pos rfl]; exact of_decide_eq_true h
  | false => rw [hf] at h; have := of_decide_eq_false h; rw [if_neg (by simp)]; omega
theorem bits_not {f g : Nat → Bool} {n : Nat} (h : ∀ i, i < n → f i = true → g i = true) : IntKind.i64.wrap ((BitVec.ofInt 64 ((bitsI f n : Nat) : Int) &&& ~~~(BitVec.ofInt 64 ((bitsI g n : Nat) : Int))).toNat) = 0 := by
  have h0 : (BitVec.ofInt 64 ((bitsI f n : Nat) : Int) &&& ~~~(BitVec.ofInt 64 ((bitsI g n : Nat) : Int))) = 0#64 := by
    rw [BitVec.ofInt_natCast, BitVec.ofInt_natCast]
    apply BitVec.eq_of_getLsbD_eq
    intro i hi
    rw [BitVec.getLsbD_and, BitVec.getLsbD_not, BitVec.getLsbD_ofNat, BitVec.getLsbD_ofNat, bits_test, bits_test]
    simp only [hi, decide_true, Bool.true_and, BitVec.getLsbD_zero]
    by_cases hn : i < n
    · rw [decide_eq_true hn, Bool.true_and, Bool.true_and]
      cases hf : f i with
      | false => rfl
      | true => rw [h i hn hf]; rfl
    · rw [decide_eq_false hn]; rfl
  rw [h0]
  decide
theorem booked_sub {l F : List Ent} (h : l.Sublist F) {t k : Int} (hb : bookedB l t k = true) : bookedB F t k = true := by
  obtain ⟨e, he, h1⟩ := booked_iff.1 hb
  exact booked_iff.2 ⟨e, h.subset he, h1⟩
theorem miss_sub {X : Till} {l F : List Ent} (h : l.Sublist F) {k i : Nat} (hm : missB X F k i = true) : missB X l k i = true := by
  obtain ⟨h1, h2⟩ := miss_iff.1 hm
  refine miss_iff.2 ⟨?_, h2⟩
  cases hq : bookedB l (i : Int) (k : Int) with
  | false => rfl
  | true => rw [booked_sub h hq] at h1; cases h1
theorem missO_0 {X : Till} {l : List Ent} (h : toldE X l = 0) : MissOut X l = ((bitsI (missB X l 1) X.tk.l.length : Int), (bitsI (missB X l 2) X.tk.l.length : Int), (bitsI (missB X l 3) X.tk.l.length : Int), 0) := by
  unfold MissOut; rw [if_neg (by rw [h]; simp)]
theorem missO_10 {X : Till} {l : List Ent} (h : tillE X l true = 0) (hW : tksE X.tk true = 10) : MissOut X l = (0, 0, 0, 10) := by
  unfold MissOut; rw [toldE_eq h, hW, if_pos (by decide)]
theorem check_err {X : Till} {l : List Ent} (h : toldE X l = 0) : (CheckOut X l).2.2 = if brokL X l l.length = [] then 4 else 0 := by
  unfold CheckOut; rw [if_neg (by rw [h]; simp)]
  cases brokL X l l.length <;> simp
theorem miss_full {X : Till} {l F : List Ent} (hb : tillB X = true) (hW : tksE X.tk true = 0) (h : FullI X l X.tk.l.length 0 F) (hF : F.length ≤ 20) : MissOut X F = (0, 0, 0, 0) := by
  have h0 : ∀ k, 1 ≤ k → k ≤ 3 → bitsI (missB X F k) X.tk.l.length = 0 := by
    intro k h1 h3
    refine bits_zero fun i hi => ?_
    cases hm : missB X F k i with
    | false => rfl
    | true =>
      obtain ⟨j, rfl⟩ : ∃ j, k = j + 1 := ⟨k - 1, by omega⟩
      have h4 := h.has i j (.inl hi) (by omega) (miss_sub h.sub hm)
      rw [(miss_iff.1 hm).1] at h4; cases h4
  rw [missO_0 (by rw [toldE_ok hb hF h.ok, hW]), h0 1 (by omega) (by omega), h0 2 (by omega) (by omega), h0 3 (by omega) (by omega)]
  rfl
theorem check_full {X : Till} {l F : List Ent} (hb : tillB X = true) (hW : tksE X.tk true = 0) (h4 : l.all (entB X) = true) (h : FullI X l X.tk.l.length 0 F) (hF : F.length ≤ 20) : (CheckOut X F).2.2 = (CheckOut X l).2.2 := by
  have hl : l.length ≤ 20 := Nat.le_trans h.sub.length_le hF
  rw [check_err (by rw [toldE_ok hb hF h.ok, hW]), check_err (by rw [toldE_ok hb hl h4, hW])]
  by_cases hr : RightB X l
  · rw [if_pos (brok_right.2 hr), if_pos (brok_right.2 (h.rt hr))]
  · rw [if_neg (fun e => hr (brok_right.1 e)), if_neg (fun e => hr (right_sub h.sub (brok_right.1 e)))]
theorem toldE_app {X : Till} {l : List Ent} {e : Ent} (hb : tillB X = true) (hW : tksE X.tk true = 0) (hl : l.length < 20) (h4 : l.all (entB X) = true) (he : entB X e = true) : toldE X (l ++ [e]) = 0 := by
  rw [toldE_ok hb (by rw [List.length_append, List.length_singleton]; omega) (by rw [List.all_append, h4, List.all_cons, he]; rfl), hW]
theorem bits_app {X : Till} {l : List Ent} {e : Ent} {k n : Nat} : IntKind.i64.wrap ((BitVec.ofInt 64 ((bitsI (missB X (l ++ [e]) k) n : Nat) : Int) &&& ~~~(BitVec.ofInt 64 ((bitsI (missB X l k) n : Nat) : Int))).toNat) = 0 :=
  bits_not fun i _ h => miss_sub (List.sublist_append_left _ _) h
end Go.Ti
