import Derived.Test.YtkhmmefgllbobaaXZA
set_option linter.unusedSimpArgs false
set_option linter.unusedVariables false
set_option linter.all false
/- Who breaks the by-law, with claims that say so; no program in sight. -/
namespace Go.Proofs.Ytkhmmefgllbobaa
open Go.W Go.Po
theorem nat_one {n : Nat} : ((n : Nat) : Int) = 1 ↔ n = 1 := by omega
/-- the claim that a bather broke it, or kept it -/
def sideC (p : Post) (i : Nat) (broke : Bool) : PClaim := ⟨(i : Int), -1, (gt p.bathers i).lady == broke⟩
theorem side_claimP {p : Post} {i : Nat} (h : i < p.bathers.length) (b : Bool) : claimP p (sideC p i b) = true :=
  and_t (decide_eq_true (by simp only [sideC]; omega)) (decide_eq_true (by simp only [sideC]; omega))
theorem side_cok {p : Post} {x : Nat → Int} {i : Nat} {b : Bool} : COk x (sideC p i b) ↔ (Brk p x i ↔ b = true) := by
  rw [cok_iff]
  unfold sideC Brk
  have e1 : ix ((i : Nat) : Int) = i + 2 := by unfold ix; omega
  have e2 : ix (-1) = 1 := rfl
  dsimp only
  rw [e1, e2]
  by_cases h1 : x (i + 2) < x 1 <;> by_cases h2 : (gt p.bathers i).lady = true <;> cases b <;> simp [h1, h2]
theorem all_bit {p : Post} (hv : postB p = true) {i : Nat} (hi : i < p.bathers.length) : allS p / 2 ^ i % 2 = 1 ↔ ¬ ∃ x, Sol p (allR p) x ∧ ¬ Brk p x i := by
  unfold allS
  rw [setTo_bit _ _ _ hi]
  have h := can_iff hv hi false
  constructor
  · intro h1 h2
    have : canBreak p i false = true := h.2 (by obtain ⟨x, hx, hb⟩ := h2; exact ⟨x, hx, by simp [hb]⟩)
    rw [this] at h1; cases h1
  · intro h1
    cases hc : canBreak p i false with
    | false => rfl
    | true =>
      obtain ⟨x, hx, hb⟩ := h.1 hc
      exact absurd ⟨x, hx, by simpa using hb⟩ h1
theorem some_bit {p : Post} (hv : postB p = true) {i : Nat} (hi : i < p.bathers.length) : someS p / 2 ^ i % 2 = 1 ↔ ∃ x, Sol p (allR p) x ∧ Brk p x i := by
  unfold someS
  rw [setTo_bit _ _ _ hi, can_iff hv hi true]
  simp
theorem bit_all {p : Post} (hv : postB p = true) (h7 : p.claims.length ≤ 7) {i : Nat} (hi : i < p.bathers.length) : allS p / 2 ^ i % 2 = 1 ↔ (ClashOut (withP p (sideC p i false))).2 = 0 := by
  rw [all_bit hv hi, with_clash0 hv h7 (side_claimP hi false)]
  simp only [side_cok]
  simp
theorem bit_some {p : Post} (hv : postB p = true) (h7 : p.claims.length ≤ 7) {i : Nat} (hi : i < p.bathers.length) : someS p / 2 ^ i % 2 = 1 ↔ (ClashOut (withP p (sideC p i true))).2 = 4 := by
  rw [some_bit hv hi, with_clash4 hv h7 (side_claimP hi true)]
  simp only [side_cok]
  simp
/-- with claims by whom broke it, of the first k -/
def sidesP (p : Post) (s : Nat) : Nat → Post
  | 0 => p
  | k + 1 => withP (sidesP p s k) (sideC p k (decide (((s / 2 ^ k % 2 : Nat) : Int) = 1)))
theorem sides_bathers (p : Post) (s : Nat) : ∀ k, (sidesP p s k).bathers = p.bathers ∧ (sidesP p s k).post = p.post := by
  intro k
  induction k with
  | zero => exact ⟨rfl, rfl⟩
  | succ k ih => exact ih
theorem sides_len (p : Post) (s : Nat) : ∀ k, (sidesP p s k).claims.length = p.claims.length + k := by
  intro k
  induction k with
  | zero => rfl
  | succ k ih => simp only [sidesP, with_len, ih]; omega
theorem sides_ok {p : Post} (hv : postB p = true) (h3 : p.claims.length ≤ 3) (s : Nat) : ∀ k, k ≤ p.bathers.length → postB (sidesP p s k) = true := by
  intro k
  induction k with
  | zero => intro _; exact hv
  | succ k ih =>
    intro hk
    have h5 := (post_num hv).2.1
    refine with_ok (ih (by omega)) (by rw [sides_len]; omega) ?_
    have := side_claimP (p := p) (i := k) (by omega) (decide (((s / 2 ^ k % 2 : Nat) : Int) = 1))
    simpa only [claimP, whoP, (sides_bathers p s k).1] using this
theorem sides_sol {p : Post} {s : Nat} {x : Nat → Int} : ∀ k, Sol (sidesP p s k) (allR (sidesP p s k)) x ↔ Sol p (allR p) x ∧ ∀ i, i < k → (Brk p x i ↔ s / 2 ^ i % 2 = 1) := by
  intro k
  induction k with
  | zero => simp [sidesP]
  | succ k ih =>
    show Sol (withP (sidesP p s k) _) (allR (withP (sidesP p s k) _)) x ↔ _
    rw [sol_with, ih, side_cok, decide_eq_true_eq, nat_one]
    constructor
    · rintro ⟨⟨h1, h2⟩, h3⟩
      exact ⟨h1, ext_round h2 h3⟩
    · rintro ⟨h1, h2⟩
      exact ⟨⟨h1, fun i hi => h2 i (by omega)⟩, h2 k (by omega)⟩
theorem setTo_eq {f : Nat → Bool} {s : Nat} : ∀ n, s < 2 ^ n → (∀ i, i < n → (f i = true ↔ s / 2 ^ i % 2 = 1)) → setTo f n = s := by
  intro n
  induction n generalizing s with
  | zero => intro h _; simp [setTo]; omega
  | succ n ih =>
    intro hs h
    have hp : 2 ^ (n + 1) = 2 * 2 ^ n := by rw [Nat.pow_succ]; omega
    have hn := h n (by omega)
    have h0 := Nat.two_pow_pos n
    by_cases hb : 2 ^ n ≤ s
    · have e : s / 2 ^ n = 1 := by
        rw [Nat.div_eq_iff h0]; omega
      have h1 := ih (s := s - 2 ^ n) (by omega) (fun i hi => by
        rw [h i (by omega)]
        have e2 : 2 ^ n = 2 ^ i * (2 * 2 ^ (n - i - 1)) := by rw [← Nat.pow_succ', ← Nat.pow_add]; congr 1; omega
        have e3 : s = (s - 2 ^ n) + 2 ^ i * (2 * 2 ^ (n - i - 1)) := by omega
        conv => lhs; rw [e3, Nat.add_mul_div_left _ _ (Nat.two_pow_pos i), Nat.add_mul_mod_self_left])
      simp only [setTo]
      rw [if_pos (hn.2 (by rw [e])), h1]; omega
    · have e : s / 2 ^ n = 0 := Nat.div_eq_of_lt (by omega)
      simp only [setTo]
      rw [if_neg (by rw [hn, e]; omega)]
      exact ih (by omega) (fun i hi => h i (by omega))
/-- can just those of a set have broken it? -/
def feasB (p : Post) (s : Nat) : Bool := decide ((ClashOut (sidesP p s p.bathers.length)).2 = 4)
theorem feas_iff {p : Post} (hv : postB p = true) (h3 : p.claims.length ≤ 3) {s : Nat} (hs : s < 2 ^ p.bathers.length) : feasB p s = true ↔ ∃ x, Sol p (allR p) x ∧ brS p x = s := by
  unfold feasB
  rw [decide_eq_true_eq, clash_is4 (sides_ok hv h3 s _ (Nat.le_refl _))]
  refine exists_congr fun x => ?_
  rw [sides_sol]
  refine and_congr_right fun _ => ⟨fun h => setTo_eq _ hs fun i hi => by rw [decide_eq_true_eq]; exact h i hi, fun h i hi => ?_⟩
  rw [← h, brS, setTo_bit _ _ _ hi, decide_eq_true_eq]
def lmTo (p : Post) : Nat → Int × Int
  | 0 => (99, -1)
  | k + 1 => if feasB p k then (min (lmTo p k).1 (pop k : Nat), max (lmTo p k).2 (pop k : Nat)) else lmTo p k
theorem lm_spec (p : Post) : ∀ k, (∀ s, s < k → feasB p s = true → (lmTo p k).1 ≤ (pop s : Nat) ∧ ((pop s : Nat) : Int) ≤ (lmTo p k).2) ∧ ((lmTo p k).1 = 99 ∨ ∃ s, s < k ∧ feasB p s = true ∧ (lmTo p k).1 = (pop s : Nat)) ∧ ((lmTo p k).2 = -1 ∨ ∃ s, s < k ∧ feasB p s = true ∧ (lmTo p k).2 = (pop s : Nat)) := by
  intro k
  induction k with
  | zero => exact ⟨fun s hs => absurd hs (by omega), .inl rfl, .inl rfl⟩
  | succ k ih =>
    obtain ⟨h1, h2, h3⟩ := ih
    simp only [lmTo]
    by_cases hf : feasB p k = true
    · rw [if_pos hf]
      refine ⟨fun s hs hfs => ?_, ?_, ?_⟩
      · dsimp only
        rcases Nat.lt_or_ge s k with h | h
        · have := h1 s h hfs; omega
        · obtain rfl : s = k := by omega
          omega
      · dsimp only
        rcases h2 with h2 | ⟨s, hs, hfs, e⟩
        · by_cases hc : (lmTo p k).1 ≤ (pop k : Nat)
          · exact .inl (by omega)
          · exact .inr ⟨k, by omega, hf, by omega⟩
        · by_cases hc : (lmTo p k).1 ≤ (pop k : Nat)
          · exact .inr ⟨s, by omega, hfs, by omega⟩
          · exact .inr ⟨k, by omega, hf, by omega⟩
      · dsimp only
        rcases h3 with h3 | ⟨s, hs, hfs, e⟩
        · by_cases hc : ((pop k : Nat) : Int) ≤ (lmTo p k).2
          · exact .inl (by omega)
          · exact .inr ⟨k, by omega, hf, by omega⟩
        · by_cases hc : ((pop k : Nat) : Int) ≤ (lmTo p k).2
          · exact .inr ⟨s, by omega, hfs, by omega⟩
          · exact .inr ⟨k, by omega, hf, by omega⟩
    · rw [if_neg hf]
      refine ⟨fun s hs hfs => ?_, ?_, ?_⟩
      · rcases Nat.lt_or_ge s k with h | h
        · exact h1 s h hfs
        · obtain rfl : s = k := by omega
          exact absurd hfs hf
      · rcases h2 with h2 | ⟨s, hs, hfs, e⟩
        · exact .inl h2
        · exact .inr ⟨s, by omega, hfs, e⟩
      · rcases h3 with h3 | ⟨s, hs, hfs, e⟩
        · exact .inl h3
        · exact .inr ⟨s, by omega, hfs, e⟩
theorem lm_eq {p : Post} (hv : postB p = true) (h3 : p.claims.length ≤ 3) (hok : okA p = true) : lmTo p (2 ^ p.bathers.length) = (loF p, hiF p) := by
  obtain ⟨h1, h2, h4⟩ := lm_spec p (2 ^ p.bathers.length)
  have hf : ∀ x, Sol p (allR p) x → feasB p (brS p x) = true := fun x hx => (feas_iff hv h3 (setTo_lt _ _)).2 ⟨x, hx, rfl⟩
  obtain ⟨x, hx, ex⟩ := mem_brk hv (lo_mem hv hok)
  obtain ⟨y, hy, ey⟩ := mem_brk hv (hi_mem hv hok)
  have a1 := h1 _ (setTo_lt _ _) (hf x hx)
  have a2 := h1 _ (setTo_lt _ _) (hf y hy)
  have hb : ∀ s, s < 2 ^ p.bathers.length → feasB p s = true → loF p ≤ (pop s : Nat) ∧ ((pop s : Nat) : Int) ≤ hiF p := fun s hs hfs => by
    obtain ⟨z, hz, rfl⟩ := (feas_iff hv h3 hs).1 hfs
    exact ⟨lo_le (brk_mem hv hz), le_hi (brk_mem hv hz)⟩
  have p1 := pop_8 (brS p x)
  have a1' : (lmTo p (2 ^ p.bathers.length)).1 ≤ loF p := by rw [ex]; exact a1.1
  have a2' : hiF p ≤ (lmTo p (2 ^ p.bathers.length)).2 := by rw [ey]; exact a2.2
  refine Prod.ext ?_ ?_
  · show (lmTo p (2 ^ p.bathers.length)).1 = loF p
    rcases h2 with h2 | ⟨s, hs, hfs, e⟩
    · omega
    · have := (hb s hs hfs).1; omega
  · show (lmTo p (2 ^ p.bathers.length)).2 = hiF p
    rcases h4 with h4 | ⟨s, hs, hfs, e⟩
    · have := broke_nn hv (hi_mem hv hok); omega
    · have := (hb s hs hfs).2; omega
theorem setTo_zero {f : Nat → Bool} : ∀ n, (∀ i, i < n → f i = false) → setTo f n = 0 := by
  intro n
  induction n with
  | zero => intro _; rfl
  | succ n ih => intro h; simp only [setTo]; rw [if_neg (by rw [h n (by omega)]; simp)]; exact ih fun i hi => h i (by omega)
theorem some_zero {p : Post} (hv : postB p = true) (hok : okA p = true) : ((someS p : Nat) : Int) = 0 ↔ hiF p = 0 := by
  constructor
  · intro h
    have h0 : someS p = 0 := by omega
    have h1 := hi_some hv hok
    have h2 := broke_nn hv (hi_mem hv hok)
    rw [h0] at h1
    have : pop 0 = 0 := rfl
    omega
  · intro h
    have : someS p = 0 := by
      refine setTo_zero _ fun i hi => ?_
      cases hc : canBreak p i true with
      | false => rfl
      | true =>
        obtain ⟨x, hx, hb⟩ := (can_iff hv hi true).1 hc
        have h1 := le_hi (brk_mem hv hx)
        have h2 : brS p x = 0 := (pop_zero _ (brS_32 hv x)).1 (by omega)
        have h3 := (setTo_bit (fun i => decide (Brk p x i)) _ _ hi).2 (decide_eq_true (hb.2 rfl))
        rw [show setTo (fun i => decide (Brk p x i)) p.bathers.length = 0 from h2] at h3
        simp at h3
    omega
end Go.Proofs.Ytkhmmefgllbobaa
