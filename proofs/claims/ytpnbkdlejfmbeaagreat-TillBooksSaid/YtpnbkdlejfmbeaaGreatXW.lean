import Derived.Test.YtpnbkdlejfmbeaaGreatXU
set_option linter.unusedSimpArgs false
set_option linter.unusedVariables false
set_option linter.all false
set_option maxRecDepth 100000
set_option maxHeartbeats 1000000
/- The reference's truths in plain words, as lists of pairs: what it tells of them is what the program tells. -/
namespace Go.Ti
open Go.W (gt gt_of)
def fitsB (T : Tks) (y : List Pr) : Bool := decide ((gt y (y.length - 1)).1 ≤ (gt y (y.length - 1)).2) && (List.range (y.length - 1)).all fun i => !(decide ((gt T.l i).hut = (gt T.l (y.length - 1)).hut) && nearB (gt y i).2 (gt y (y.length - 1)).2)
def nB (T : Tks) (k : Nat) : Nat := ((gt T.l k).bought.hi - (gt T.l k).bought.lo + 1).toNat
def nD (T : Tks) (k : Nat) : Nat := ((gt T.l k).door.hi - (gt T.l k).door.lo + 1).toNat
def goB (T : Tks) (f : List Pr → List (List Pr)) (b : List Pr) (a : Int) (k : Nat) : List (List Pr) := (List.range k).flatMap fun j : Nat => if fitsB T (b ++ [(a, (gt T.l b.length).door.lo + (j : Int))]) then f (b ++ [(a, (gt T.l b.length).door.lo + (j : Int))]) else []
def goA (T : Tks) (f : List Pr → List (List Pr)) (b : List Pr) (k : Nat) : List (List Pr) := (List.range k).flatMap fun i : Nat => goB T f b ((gt T.l b.length).bought.lo + (i : Int)) (nD T b.length)
def refT (T : Tks) : Nat → List Pr → List (List Pr)
  | 0, b => [b]
  | rem + 1, b => goA T (refT T rem) b (nB T b.length)
theorem goB_succ (T : Tks) (f : List Pr → List (List Pr)) (b : List Pr) (a : Int) (k : Nat) : goB T f b a (k + 1) = goB T f b a k ++ if fitsB T (b ++ [(a, (gt T.l b.length).door.lo + (k : Int))]) then f (b ++ [(a, (gt T.l b.length).door.lo + (k : Int))]) else [] := by
  unfold goB; rw [List.range_succ, List.flatMap_append]; simp
theorem goA_succ (T : Tks) (f : List Pr → List (List Pr)) (b : List Pr) (k : Nat) : goA T f b (k + 1) = goA T f b k ++ goB T f b ((gt T.l b.length).bought.lo + (k : Int)) (nD T b.length) := by
  unfold goA; rw [List.range_succ, List.flatMap_append]; simp
/-! ### how many -/
theorem goB_len {T : Tks} {f : List Pr → List (List Pr)} {b : List Pr} {a : Int} {M : Nat} (hf : ∀ p, (f (b ++ [p])).length ≤ M) : ∀ k, (goB T f b a k).length ≤ k * M := by
  intro k
  induction k with
  | zero => simp [goB]
  | succ k ih =>
    rw [goB_succ, List.length_append, Nat.succ_mul]
    have : (if fitsB T (b ++ [(a, (gt T.l b.length).door.lo + (k : Int))]) then f (b ++ [(a, (gt T.l b.length).door.lo + (k : Int))]) else []).length ≤ M := by
      split
      · exact hf _
      · simp
    omega
theorem goA_len {T : Tks} {f : List Pr → List (List Pr)} {b : List Pr} {M : Nat} (hf : ∀ p, (f (b ++ [p])).length ≤ M) (hd : nD T b.length ≤ 3) : ∀ k, (goA T f b k).length ≤ k * (3 * M) := by
  intro k
  induction k with
  | zero => simp [goA]
  | succ k ih =>
    rw [goA_succ, List.length_append, Nat.succ_mul]
    have h1 := goB_len (T := T) (a := (gt T.l b.length).bought.lo + (k : Int)) hf (nD T b.length)
    have h2 : nD T b.length * M ≤ 3 * M := Nat.mul_le_mul_right M hd
    omega
theorem wid3 {T : Tks} (hv : tksB T = true) {k : Nat} (hk : k < T.l.length) : nB T k ≤ 3 ∧ nD T k ≤ 3 := by
  have h := (tks_num hv).2.2 k hk
  unfold nB nD
  omega
theorem ref_len {T : Tks} (hv : tksB T = true) : ∀ (rem : Nat) (b : List Pr), b.length + rem = T.l.length → (refT T rem b).length ≤ 9 ^ rem := by
  intro rem
  induction rem with
  | zero => intro b _; simp [refT]
  | succ rem ih =>
    intro b hb
    have h3 := wid3 hv (k := b.length) (by omega)
    have h1 := goA_len (T := T) (f := refT T rem) (b := b) (M := 9 ^ rem) (fun p => ih _ (by rw [List.length_append, List.length_singleton]; omega)) h3.2 (nB T b.length)
    have h2 : nB T b.length * (3 * 9 ^ rem) ≤ 3 * (3 * 9 ^ rem) := Nat.mul_le_mul_right _ h3.1
    have h4 : (9 : Nat) ^ (rem + 1) = 9 * 9 ^ rem := by rw [Nat.pow_succ, Nat.mul_comm]
    unfold refT
    omega
/-! ### which -/
def stepOk (T : Tks) (y : List Pr) (i : Nat) : Prop := pairP (gt T.l i) (gt y i) = true ∧ ∀ j, j < i → (gt T.l j).hut = (gt T.l i).hut → nearB (gt y j).2 (gt y i).2 = false
theorem gt_pre {b y : List Pr} (h : b <+: y) {i : Nat} (hi : i < b.length) : gt y i = gt b i := by
  obtain ⟨r, rfl⟩ := h
  exact gt_app_left hi
theorem gt_last (b : List Pr) (p : Pr) : gt (b ++ [p]) b.length = p := by simp [gt, List.getD]
theorem fits_iff {T : Tks} {b : List Pr} {p : Pr} : fitsB T (b ++ [p]) = true ↔ p.1 ≤ p.2 ∧ ∀ j, j < b.length → (gt T.l j).hut = (gt T.l b.length).hut → nearB (gt b j).2 p.2 = false := by
  have hl : (b ++ [p]).length - 1 = b.length := by simp
  unfold fitsB
  rw [hl, gt_last, Bool.and_eq_true, decide_eq_true_eq, List.all_eq_true]
  refine and_congr Iff.rfl ⟨fun h j hj hh => ?_, fun h j hj => ?_⟩
  · have h1 := h j (List.mem_range.2 hj)
    rw [decide_eq_true hh, gt_app_left hj] at h1
    simpa using h1
  · have hj' := List.mem_range.1 hj
    rw [gt_app_left hj']
    by_cases hh : (gt T.l j).hut = (gt T.l b.length).hut
    · rw [h j hj' hh]; simp
    · rw [decide_eq_false hh]; rfl
theorem pre_snoc {b y : List Pr} (h : b <+: y) (hl : b.length < y.length) : b ++ [gt y b.length] <+: y := by
  obtain ⟨r, rfl⟩ := h
  cases r with
  | nil => simp at hl
  | cons p r =>
    have : gt (b ++ p :: r) b.length = p := by simp [gt, List.getD]
    rw [this]
    exact ⟨r, by simp⟩
theorem mem_goA {T : Tks} {f : List Pr → List (List Pr)} {b y : List Pr} : y ∈ goA T f b (nB T b.length) ↔
    ∃ p : Pr, ((gt T.l b.length).bought.lo ≤ p.1 ∧ p.1 ≤ (gt T.l b.length).bought.hi) ∧ ((gt T.l b.length).door.lo ≤ p.2 ∧ p.2 ≤ (gt T.l b.length).door.hi) ∧ fitsB T (b ++ [p]) = true ∧ y ∈ f (b ++ [p]) := by
  unfold goA goB
  simp only [List.mem_flatMap, List.mem_range]
  constructor
  · rintro ⟨i, hi, j, hj, hy⟩
    split at hy
    · rename_i hf
      unfold nB at hi; unfold nD at hj
      exact ⟨_, ⟨by simp only; omega, by simp only; omega⟩, ⟨by simp only; omega, by simp only; omega⟩, hf, hy⟩
    · simp at hy
  · rintro ⟨⟨a, d⟩, ⟨h1, h2⟩, ⟨h3, h4⟩, hf, hy⟩
    simp only at h1 h2 h3 h4
    refine ⟨(a - (gt T.l b.length).bought.lo).toNat, by unfold nB; omega, (d - (gt T.l b.length).door.lo).toNat, by unfold nD; omega, ?_⟩
    rw [show (gt T.l b.length).bought.lo + ((a - (gt T.l b.length).bought.lo).toNat : Int) = a by omega, show (gt T.l b.length).door.lo + ((d - (gt T.l b.length).door.lo).toNat : Int) = d by omega, if_pos hf]
    exact hy
theorem ref_mem (T : Tks) : ∀ (rem : Nat) (b y : List Pr), y ∈ refT T rem b ↔ y.length = b.length + rem ∧ b <+: y ∧ ∀ i, b.length ≤ i → i < y.length → stepOk T y i := by
  intro rem
  induction rem with
  | zero =>
    intro b y
    simp only [refT, List.mem_singleton]
    constructor
    · rintro rfl; exact ⟨rfl, List.prefix_refl _, fun i h1 h2 => by omega⟩
    · rintro ⟨h1, h2, _⟩; exact (h2.eq_of_length (by omega)).symm
  | succ rem ih =>
    intro b y
    have hs : ∀ p : Pr, (b ++ [p]).length = b.length + 1 := fun p => by simp
    show y ∈ goA T (refT T rem) b (nB T b.length) ↔ _
    rw [mem_goA]
    constructor
    · rintro ⟨p, h1, h2, hf, hy⟩
      obtain ⟨h3, h4, h5⟩ := (ih _ _).1 hy
      have hpb : b <+: y := (List.prefix_append b [p]).trans h4
      have hp : gt y b.length = p := by rw [gt_pre h4 (by rw [hs]; omega), gt_last]
      rw [hs] at h3 h5
      refine ⟨by omega, hpb, fun i hi1 hi2 => ?_⟩
      by_cases e : i = b.length
      · subst e
        obtain ⟨f1, f2⟩ := fits_iff.1 hf
        refine ⟨by rw [hp]; exact pairP_iff.2 ⟨h1, h2, f1⟩, fun j hj hh => ?_⟩
        rw [hp, gt_pre hpb hj]
        exact f2 j hj hh
      · exact h5 i (by omega) hi2
    · rintro ⟨h1, h2, h3⟩
      have hlt : b.length < y.length := by omega
      obtain ⟨s1, s2⟩ := h3 b.length (Nat.le_refl _) hlt
      obtain ⟨p1, p2, p3⟩ := pairP_iff.1 s1
      refine ⟨gt y b.length, p1, p2, fits_iff.2 ⟨p3, fun j hj hh => ?_⟩, (ih _ _).2 ⟨by rw [hs]; omega, pre_snoc h2 hlt, fun i hi1 hi2 => h3 i (by rw [hs] at hi1; omega) hi2⟩⟩
      rw [← gt_pre h2 hj]
      exact s2 j hj hh
theorem ref_sol {T : Tks} {y : List Pr} : y ∈ refT T T.l.length [] ↔ y.length = T.l.length ∧ Sol T (gt y) := by
  rw [ref_mem]
  constructor
  · rintro ⟨h1, _, h3⟩
    have hl : y.length = T.l.length := by simpa using h1
    refine ⟨hl, ⟨fun i hi => (h3 i (Nat.zero_le _) (by omega)).1, fun i j hi hj hne hh => ?_, fun i hi => gt_out (by omega)⟩⟩
    rcases Nat.lt_or_gt_of_ne hne with h | h
    · exact (h3 j (Nat.zero_le _) (by omega)).2 i h hh
    · rw [nearB_comm]; exact (h3 i (Nat.zero_le _) (by omega)).2 j h hh.symm
  · rintro ⟨h1, h2⟩
    exact ⟨by simpa using h1, List.nil_prefix, fun i _ hi => ⟨h2.pair i (by omega), fun j hj hh => h2.apart j i (by omega) (by omega) (by omega) hh⟩⟩
theorem ref_onto {T : Tks} {x : Tru} (h : Sol T x) : ∃ y, y ∈ refT T T.l.length [] ∧ gt y = x := by
  have e : gt ((List.range T.l.length).map x) = x := by
    funext i
    by_cases hi : i < T.l.length
    · simp [gt, List.getD, hi]
    · rw [gt_out (by simpa using hi), h.rest i (by omega)]; rfl
  exact ⟨(List.range T.l.length).map x, ref_sol.2 ⟨by simp, by rw [e]; exact h⟩, e⟩
abbrev RF (T : Tks) : List (List Pr) := refT T T.l.length []
theorem ref_all {T : Tks} {y : List Pr} (h : y ∈ RF T) : y.length = T.l.length ∧ gt y ∈ allT T := ⟨(ref_sol.1 h).1, mem_allT.2 (ref_sol.1 h).2⟩
theorem all_ref {T : Tks} {x : Tru} (h : x ∈ allT T) : ∃ y, y ∈ RF T ∧ gt y = x := ref_onto (mem_allT.1 h)
theorem ref_ne {T : Tks} : RF T = [] ↔ allT T = [] := by
  constructor
  · intro h
    rcases hl : allT T with _ | ⟨x, l⟩
    · rfl
    · obtain ⟨y, hy, _⟩ := all_ref (T := T) (x := x) (by rw [hl]; simp)
      rw [h] at hy; simp at hy
  · intro h
    rcases hl : RF T with _ | ⟨y, l⟩
    · rfl
    · have := (ref_all (T := T) (y := y) (by rw [hl]; simp)).2
      rw [h] at this; simp at this
/-! ### spans of numbers -/
structure IsH (l : List Int) (s : Sp) : Prop where
  lo : s.lo ∈ l
  hi : s.hi ∈ l
  mem : ∀ v, v ∈ l → s.lo ≤ v ∧ v ≤ s.hi
theorem IsH.uniq {l : List Int} {s t : Sp} (h : IsH l s) (h' : IsH l t) : s = t := by
  obtain ⟨a, b⟩ := s
  obtain ⟨c, d⟩ := t
  have h1 := h.mem _ h'.lo
  have h2 := h.mem _ h'.hi
  have h3 := h'.mem _ h.lo
  have h4 := h'.mem _ h.hi
  simp only at h1 h2 h3 h4
  rw [Sp.mk.injEq]
  omega
def hullL (l : List Int) : Sp := ⟨l.foldl min (gt l 0), l.foldl max (gt l 0)⟩
theorem foldm (l : List Int) : ∀ a, (l.foldl min a = a ∨ l.foldl min a ∈ l) ∧ l.foldl min a ≤ a ∧ ∀ v, v ∈ l → l.foldl min a ≤ v := by
  induction l with
  | nil => intro a; exact ⟨.inl rfl, Int.le_refl _, fun v hv => by simp at hv⟩
  | cons x l ih =>
    intro a
    obtain ⟨h1, h2, h3⟩ := ih (min a x)
    refine ⟨?_, by simp only [List.foldl_cons]; omega, fun v hv => ?_⟩
    · simp only [List.foldl_cons]
      rcases h1 with h1 | h1
      · by_cases h : a ≤ x
        · left; omega
        · right; rw [h1, show min a x = x by omega]; simp
      · right; exact List.mem_cons_of_mem _ h1
    · simp only [List.foldl_cons]
      rcases List.mem_cons.1 hv with rfl | hv
      · omega
      · exact h3 v hv
theorem foldM (l : List Int) : ∀ a, (l.foldl max a = a ∨ l.foldl max a ∈ l) ∧ a ≤ l.foldl max a ∧ ∀ v, v ∈ l → v ≤ l.foldl max a := by
  induction l with
  | nil => intro a; exact ⟨.inl rfl, Int.le_refl _, fun v hv => by simp at hv⟩
  | cons x l ih =>
    intro a
    obtain ⟨h1, h2, h3⟩ := ih (max a x)
    refine ⟨?_, by simp only [List.foldl_cons]; omega, fun v hv => ?_⟩
    · simp only [List.foldl_cons]
      rcases h1 with h1 | h1
      · by_cases h : x ≤ a
        · left; omega
        · right; rw [h1, show max a x = x by omega]; simp
      · right; exact List.mem_cons_of_mem _ h1
    · simp only [List.foldl_cons]
      rcases List.mem_cons.1 hv with rfl | hv
      · omega
      · exact h3 v hv
theorem hullL_spec {l : List Int} (h : l ≠ []) : IsH l (hullL l) := by
  have h0 : gt l 0 ∈ l := gt_mem (List.length_pos_iff.2 h)
  obtain ⟨a1, _, a3⟩ := foldm l (gt l 0)
  obtain ⟨b1, _, b3⟩ := foldM l (gt l 0)
  refine ⟨?_, ?_, fun v hv => ⟨a3 v hv, b3 v hv⟩⟩
  · rcases a1 with h | h
    · simp only [hullL]; rw [h]; exact h0
    · exact h
  · rcases b1 with h | h
    · simp only [hullL]; rw [h]; exact h0
    · exact h
theorem hull_eq {l : List Int} {s : Sp} (h : IsH l s) : hullL l = s := (hullL_spec (by intro e; have := h.lo; rw [e] at this; simp at this)).uniq h
/-- the span of what is read off each truth -/
theorem hull_ref {T : Tks} {g : List Pr → Int} {f : Tru → Int} (hg : ∀ y, y ∈ RF T → g y = f (gt y)) {s : Sp} (hlo : ∃ x, x ∈ allT T ∧ f x = s.lo) (hhi : ∃ x, x ∈ allT T ∧ f x = s.hi) (hm : ∀ x, x ∈ allT T → s.lo ≤ f x ∧ f x ≤ s.hi) : hullL ((RF T).map g) = s := by
  refine hull_eq ⟨?_, ?_, fun v hv => ?_⟩
  · obtain ⟨x, hx, e⟩ := hlo
    obtain ⟨y, hy, rfl⟩ := all_ref hx
    exact List.mem_map.2 ⟨y, hy, by rw [hg y hy, e]⟩
  · obtain ⟨x, hx, e⟩ := hhi
    obtain ⟨y, hy, rfl⟩ := all_ref hx
    exact List.mem_map.2 ⟨y, hy, by rw [hg y hy, e]⟩
  · obtain ⟨y, hy, rfl⟩ := List.mem_map.1 hv
    rw [hg y hy]
    exact hm _ (ref_all hy).2
/-! ### fines -/
def fineY (X : Till) (y : List Pr) (n : Nat) : Int := if turnT y.length (gt y) n then 0 else X.fine
def fineX (X : Till) (n : Nat) (x : Tru) : Int := if turnT X.tk.l.length x n then 0 else X.fine
theorem fineY_eq {X : Till} {y : List Pr} (h : y ∈ RF X.tk) (n : Nat) : fineY X y n = fineX X n (gt y) := by unfold fineY fineX; rw [(ref_all h).1]
theorem any_ex {l : List Tru} {f : Tru → Bool} (h : l.any f = true) : ∃ x, x ∈ l ∧ f x = true := List.any_eq_true.1 h
theorem fine_hull {X : Till} (hb : tillB X = true) (hW : tksE X.tk true = 0) {n : Int} (hn : isT X.tk n = true) : hullL ((RF X.tk).map fun y => fineY X y n.toNat) = fineSp X n := by
  have hne := tks_0 (tillB_num hb).1 hW
  have hf := (tillB_num hb).2.2.1
  refine hull_ref (f := fineX X n.toNat) (fun y hy => fineY_eq hy _) ?_ ?_ ?_
  · simp only [fineSp, turn_0 hn hW]
    cases h1 : (allT X.tk).any fun t => turnT X.tk.l.length t n.toNat with
    | true =>
      obtain ⟨x, hx, e⟩ := any_ex h1
      refine ⟨x, hx, ?_⟩
      unfold fineX
      rw [if_pos e, if_pos]
      unfold gradeI
      cases (allT X.tk).any fun t => !turnT X.tk.l.length t n.toNat <;> decide
    | false =>
      rcases any_some hne fun t => turnT X.tk.l.length t n.toNat with h2 | h2
      · rw [h1] at h2; cases h2
      · obtain ⟨x, hx, e⟩ := any_ex h2
        refine ⟨x, hx, ?_⟩
        unfold fineX
        rw [if_neg (by simpa using e), h2, if_neg (by decide)]
  · simp only [fineSp, turn_0 hn hW]
    cases h1 : (allT X.tk).any fun t => !turnT X.tk.l.length t n.toNat with
    | true =>
      obtain ⟨x, hx, e⟩ := any_ex h1
      refine ⟨x, hx, ?_⟩
      unfold fineX
      rw [if_neg (by simpa using e), if_neg]
      unfold gradeI
      cases (allT X.tk).any fun t => turnT X.tk.l.length t n.toNat <;> decide
    | false =>
      rcases any_some hne fun t => turnT X.tk.l.length t n.toNat with h2 | h2
      · obtain ⟨x, hx, e⟩ := any_ex h2
        refine ⟨x, hx, ?_⟩
        unfold fineX
        rw [if_pos e, h2, if_pos (by decide)]
      · rw [h1] at h2; cases h2
  · intro x hx
    simp only [fineSp, turn_0 hn hW]
    cases ht : turnT X.tk.l.length x n.toNat with
    | true =>
      have h1 : ((allT X.tk).any fun t => turnT X.tk.l.length t n.toNat) = true := List.any_eq_true.2 ⟨x, hx, ht⟩
      have e : fineX X n.toNat x = 0 := by unfold fineX; rw [if_pos ht]
      rw [e, h1]
      constructor
      · split
        · exact Int.le_refl _
        · rename_i h; exact absurd (by unfold gradeI; cases (allT X.tk).any fun t => !turnT X.tk.l.length t n.toNat <;> decide) h
      · split <;> omega
    | false =>
      have h1 : ((allT X.tk).any fun t => !turnT X.tk.l.length t n.toNat) = true := List.any_eq_true.2 ⟨x, hx, by simp [ht]⟩
      have e : fineX X n.toNat x = X.fine := by unfold fineX; rw [if_neg (by simp [ht])]
      rw [e, h1]
      constructor
      · split <;> omega
      · split
        · rename_i h
          exfalso
          revert h
          unfold gradeI
          cases (allT X.tk).any fun t => turnT X.tk.l.length t n.toNat <;> decide
        · exact Int.le_refl _
def sumFi (X : Till) (y : List Pr) (k : Nat) : Int := ((List.range k).map fun i => fineY X y i).sum
theorem sumFi_succ (X : Till) (y : List Pr) (k : Nat) : sumFi X y (k + 1) = sumFi X y k + fineY X y k := by unfold sumFi; rw [List.range_succ, List.map_append, List.sum_append]; simp
theorem fineY_num {X : Till} (hb : tillB X = true) (y : List Pr) (n : Nat) : 0 ≤ fineY X y n ∧ fineY X y n ≤ 100 := by
  have hf := (tillB_num hb).2.2.1
  unfold fineY; split <;> omega
theorem sumFi_num {X : Till} (hb : tillB X = true) (y : List Pr) : ∀ k, 0 ≤ sumFi X y k ∧ sumFi X y k ≤ 100 * (k : Int) := by
  intro k
  induction k with
  | zero => simp [sumFi]
  | succ k ih => have := fineY_num hb y k; rw [sumFi_succ]; omega
theorem sumFi_odd (X : Till) (y : List Pr) : ∀ k, sumFi X y k = (((List.range k).filter fun i => !turnT y.length (gt y) i).length : Int) * X.fine := by
  intro k
  induction k with
  | zero => simp [sumFi]
  | succ k ih =>
    rw [sumFi_succ, ih, List.range_succ, List.filter_append, List.length_append]
    unfold fineY
    cases h : turnT y.length (gt y) k <;> simp [h, Int.add_mul]
theorem fines_hull {X : Till} (hb : tillB X = true) (hW : tksE X.tk true = 0) : hullL ((RF X.tk).map fun y => sumFi X y X.tk.l.length) = ⟨(WrongOut X.tk).1.lo * X.fine, (WrongOut X.tk).1.hi * X.fine⟩ := by
  have hne := tks_0 (tillB_num hb).1 hW
  have hf := (tillB_num hb).2.2.1
  have hs := spanS_spec (oddT X.tk.l.length) hne
  have hw : (WrongOut X.tk).1 = spanS (oddT X.tk.l.length) (allT X.tk) := by unfold WrongOut; rw [if_neg (by rw [hW]; simp)]
  rw [hw]
  refine hull_ref (f := fun x => oddT X.tk.l.length x * X.fine) (fun y hy => ?_) ?_ ?_ ?_
  · rw [sumFi_odd, (ref_all hy).1]; rfl
  · obtain ⟨x, hx, e⟩ := hs.lo; exact ⟨x, hx, by rw [e]⟩
  · obtain ⟨x, hx, e⟩ := hs.hi; exact ⟨x, hx, by rw [e]⟩
  · intro x hx
    have h := hs.mem x hx
    exact ⟨Int.mul_le_mul_of_nonneg_right h.1 hf.1, Int.mul_le_mul_of_nonneg_right h.2 hf.1⟩
/-! ### what is given back -/
def backY (X : Till) (y : List Pr) (n : Nat) : Int := ((gt y n).2 - (gt y n).1) / 10 * X.wait
def waitX (n : Nat) (x : Tru) : Int := ((x n).2 - (x n).1) / 10
theorem upd_sol {T : Tks} {x : Tru} (h : Sol T x) {i : Nat} (hi : i < T.l.length) {b : Int} (hb : pairP (gt T.l i) (b, (x i).2) = true) : Sol T (upd x i (b, (x i).2)) := by
  have hs : ∀ j, (upd x i (b, (x i).2) j).2 = (x j).2 := fun j => by
    by_cases e : j = i
    · subst e; rw [upd_same]
    · rw [upd_other _ _ e]
  refine ⟨fun j hj => ?_, fun j k hj hk hne hh => ?_, fun j hj => ?_⟩
  · by_cases e : j = i
    · subst e; rw [upd_same]; exact hb
    · rw [upd_other _ _ e]; exact h.pair j hj
  · rw [hs, hs]; exact h.apart j k hj hk hne hh
  · rw [upd_other _ _ (by omega)]; exact h.rest j hj
theorem wait_ends {T : Tks} (hv : tksB T = true) (hW : tksE T true = 0) {n : Int} (hn : isT T n = true) :
    (∃ x, x ∈ allT T ∧ waitX n.toNat x = (waitsSp T n).lo) ∧ (∃ x, x ∈ allT T ∧ waitX n.toNat x = (waitsSp T n).hi) ∧ (∀ x, x ∈ allT T → (waitsSp T n).lo ≤ waitX n.toNat x ∧ waitX n.toNat x ≤ (waitsSp T n).hi) ∧ (waitsSp T n).hi ≤ (waitsSp T n).lo + 1 := by
  have hne := tks_0 hv hW
  obtain ⟨hi, _⟩ := isT_lt hn
  have hb := spanS_spec (fun t => (t n.toNat).1) hne
  have hd := spanS_spec (fun t => (t n.toNat).2) hne
  have hnum := (tks_num hv).2.2 n.toNat hi
  have hpr : ∀ x, x ∈ allT T → _ := fun x hx => pairP_iff.1 ((mem_allT.1 hx).pair n.toNat hi)
  simp only [waitsSp, minutes_0 hn hW]
  generalize spanS (fun t => (t n.toNat).1) (allT T) = B at *
  generalize spanS (fun t => (t n.toNat).2) (allT T) = E at *
  obtain ⟨xb, hxb, eb⟩ := hb.lo
  obtain ⟨xB, hxB, eB⟩ := hb.hi
  obtain ⟨xd, hxd, ed⟩ := hd.lo
  obtain ⟨xD, hxD, eD⟩ := hd.hi
  have p1 := hpr xb hxb
  have p2 := hpr xB hxB
  have p3 := hpr xd hxd
  have p4 := hpr xD hxD
  have m1 := hb.mem xd hxd
  have m2 := hb.mem xD hxD
  have m3 := hd.mem xb hxb
  have m4 := hd.mem xB hxB
  refine ⟨⟨upd xd n.toNat (min B.hi E.lo, (xd n.toNat).2), mem_allT.2 (upd_sol (mem_allT.1 hxd) hi (pairP_iff.2 ⟨⟨?_, ?_⟩, p3.2.1, ?_⟩)), ?_⟩, ⟨upd xD n.toNat (B.lo, (xD n.toNat).2), mem_allT.2 (upd_sol (mem_allT.1 hxD) hi (pairP_iff.2 ⟨⟨?_, ?_⟩, p4.2.1, ?_⟩)), ?_⟩, fun x hx => ?_, ?_⟩
  · simp only; omega
  · simp only; omega
  · simp only; omega
  · unfold waitX; rw [upd_same]
    try simp only
    rw [show (xd n.toNat).2 - min B.hi E.lo = max 0 (E.lo - B.hi) by omega]
  · simp only; omega
  · simp only; omega
  · simp only; omega
  · unfold waitX; rw [upd_same]
    try simp only
    rw [show (xD n.toNat).2 - B.lo = E.hi - B.lo by omega]
  · have q := hpr x hx
    have q1 := hb.mem x hx
    have q2 := hd.mem x hx
    unfold waitX
    try simp only at q1 q2
    omega
  · omega
theorem back_hull {X : Till} (hb : tillB X = true) (hW : tksE X.tk true = 0) {n : Int} (hn : isT X.tk n = true) : hullL ((RF X.tk).map fun y => backY X y n.toNat) = backSp X n := by
  have hw := (tillB_num hb).2.2.2
  obtain ⟨⟨x1, h1, e1⟩, ⟨x2, h2, e2⟩, h3, _⟩ := wait_ends (tillB_num hb).1 hW hn
  refine hull_ref (f := fun x => X.wait * waitX n.toNat x) (fun y _ => Int.mul_comm _ _) ⟨x1, h1, by rw [e1]; rfl⟩ ⟨x2, h2, by rw [e2]; rfl⟩ fun x hx => ?_
  have h := h3 x hx
  exact ⟨Int.mul_le_mul_of_nonneg_left h.1 hw.1, Int.mul_le_mul_of_nonneg_left h.2 hw.1⟩
/-! ### what can be due -/
def canY (X : Till) (t m k : Int) (y : List Pr) : Bool := if k = 1 then decide (m = X.price) else if k = 2 then decide (m = X.fine) && !turnT y.length (gt y) t.toNat else decide (m = backY X y t.toNat)
theorem can_ref {X : Till} (hb : tillB X = true) (hW : tksE X.tk true = 0) {t k : Int} (hn : isT X.tk t = true) (hk : 1 ≤ k ∧ k ≤ 3) (m : Int) : (RF X.tk).any (canY X t m k) = canOf X t m k.toNat := by
  have hne : RF X.tk ≠ [] := fun e => tks_0 (tillB_num hb).1 hW (ref_ne.1 e)
  rw [Bool.eq_iff_iff, List.any_eq_true]
  rcases (show k = 1 ∨ k = 2 ∨ k = 3 by omega) with rfl | rfl | rfl
  · have e : ∀ y, canY X t m 1 y = decide (m = X.price) := fun y => by unfold canY; rw [if_pos rfl]
    simp only [e, show canOf X t m (1 : Int).toNat = priceCan X t m from rfl, priceCan, hn, Bool.and_true]
    constructor
    · rintro ⟨_, _, h⟩; exact h
    · intro h
      obtain ⟨y, hy⟩ := List.exists_mem_of_ne_nil _ hne
      exact ⟨y, hy, h⟩
  · have e : ∀ y, canY X t m 2 y = (decide (m = X.fine) && !turnT y.length (gt y) t.toNat) := fun y => by unfold canY; rw [if_neg (by decide), if_pos rfl]
    simp only [e, show canOf X t m (2 : Int).toNat = fineCan X t m from rfl, fineCan, hn, Bool.and_true, turn_0 hn hW, Bool.and_eq_true, decide_eq_true_eq, Ne, grade_2]
    constructor
    · rintro ⟨y, hy, h1, h2⟩
      refine ⟨fun h => ?_, h1⟩
      have h3 := List.any_eq_false.1 h.2 _ (ref_all hy).2
      rw [← (ref_all hy).1] at h3
      exact h3 h2
    · rintro ⟨h1, h2⟩
      rcases any_some (tks_0 (tillB_num hb).1 hW) fun t_1 => turnT X.tk.l.length t_1 t.toNat with h3 | h3
      · cases h4 : (allT X.tk).any fun t_1 => !turnT X.tk.l.length t_1 t.toNat with
        | false => exact absurd ⟨h3, h4⟩ h1
        | true =>
          obtain ⟨x, hx, hx2⟩ := any_ex h4
          obtain ⟨y, hy, rfl⟩ := all_ref hx
          exact ⟨y, hy, h2, by rw [(ref_all hy).1]; exact hx2⟩
      · obtain ⟨x, hx, hx2⟩ := any_ex h3
        obtain ⟨y, hy, rfl⟩ := all_ref hx
        exact ⟨y, hy, h2, by rw [(ref_all hy).1]; exact hx2⟩
  · have e : ∀ y, canY X t m 3 y = decide (m = backY X y t.toNat) := fun y => by unfold canY; rw [if_neg (by decide), if_neg (by decide)]
    simp only [e, show canOf X t m (3 : Int).toNat = backCan X t m from rfl, backCan, List.any_eq_true, decide_eq_true_eq]
    obtain ⟨⟨x1, h1, e1⟩, ⟨x2, h2, e2⟩, h3, h4⟩ := wait_ends (tillB_num hb).1 hW hn
    constructor
    · rintro ⟨y, hy, h⟩
      have h5 := h3 _ (ref_all hy).2
      exact ⟨waitX t.toNat (gt y), mem_rng.2 h5, h.symm⟩
    · rintro ⟨j, hj, h⟩
      have hj' := mem_rng.1 hj
      rcases (show j = (waitsSp X.tk t).lo ∨ j = (waitsSp X.tk t).hi by omega) with h5 | h5
      · obtain ⟨y, hy, rfl⟩ := all_ref h1
        exact ⟨y, hy, by rw [← h, h5, ← e1]; rfl⟩
      · obtain ⟨y, hy, rfl⟩ := all_ref h2
        exact ⟨y, hy, by rw [← h, h5, ← e2]; rfl⟩
/-! ### what is surely due -/
theorem pos_hull {l : List Int} {s : Sp} (h : l ≠ []) (e : hullL l = s) : (l.all fun v => decide (v > 0)) = decide (s.lo > 0) := by
  have hs := hullL_spec h
  rw [e] at hs
  rw [Bool.eq_iff_iff, List.all_eq_true, decide_eq_true_eq]
  constructor
  · intro h1; exact of_decide_eq_true (h1 _ hs.lo)
  · intro h1 v hv
    have := hs.mem v hv
    exact decide_eq_true (by omega)
theorem fine_all {X : Till} (hb : tillB X = true) (hW : tksE X.tk true = 0) {n : Int} (hn : isT X.tk n = true) : ((RF X.tk).all fun y => decide (fineY X y n.toNat > 0)) = decide ((fineSp X n).lo > 0) := by
  have hne : RF X.tk ≠ [] := fun e => tks_0 (tillB_num hb).1 hW (ref_ne.1 e)
  rw [← pos_hull (l := (RF X.tk).map fun y => fineY X y n.toNat) (by simpa using hne) (fine_hull hb hW hn), List.all_map]
  rfl
theorem back_all {X : Till} (hb : tillB X = true) (hW : tksE X.tk true = 0) {n : Int} (hn : isT X.tk n = true) : ((RF X.tk).all fun y => decide (backY X y n.toNat > 0)) = decide ((backSp X n).lo > 0) := by
  have hne : RF X.tk ≠ [] := fun e => tks_0 (tillB_num hb).1 hW (ref_ne.1 e)
  rw [← pos_hull (l := (RF X.tk).map fun y => backY X y n.toNat) (by simpa using hne) (back_hull hb hW hn), List.all_map]
  rfl
end Go.Ti
