import Derived.Test.YtkhmmefgllbobaaXJ
import Derived.Test.YtkhmmefgllbobaaXM
import Derived.Test.YtkhmmefgllbobaaXK
import Derived.Test.YtkhmmefgllbobaaXL
set_option linter.unusedSimpArgs false
set_option linter.unusedVariables false
set_option linter.all false
/- What a truth says of a post; no program in sight. -/
namespace Go.Proofs.Ytkhmmefgllbobaa
open Go.W Go.Po
theorem sol_ok {p : Post} (hv : postB p = true) {x : Nat → Int} (hx : Sol p (allR p) x) : okA p = true := (far_ok (allR_in hv).in).2 ⟨x, hx⟩
theorem told_zero {p : Post} (hv : postB p = true) (hok : okA p = true) : toldE p true = 0 := by
  unfold toldE; rw [if_neg (by rw [hv]; simp), if_neg (by simp), if_neg (by rw [hok]; simp)]
theorem sets_zero : ∀ k, k < 9 → gt (setsL k) 0 = 0 := of_decide_eq_true (by kernel_rfl)
theorem false_zero {p : Post} (hv : postB p = true) {x : Nat → Int} (hx : Sol p (allR p) x) : FalseOut p = (0, 0, 0) := by
  have h8 := (post_num hv).2.2.1
  have h0 := sets_zero p.claims.length (by omega)
  have hl := sets_len p.claims.length (by omega)
  have h21 : 1 ≤ 2 ^ p.claims.length := Nat.one_le_two_pow
  have hf : fstP (setsL p.claims.length) (freeB p) = (0, true) := by
    rw [fstP_hit (k := 0) (by omega) (fun i hi => absurd hi (by omega)) (by rw [h0]; exact sol_ok hv hx), h0]
  unfold FalseOut
  rw [if_neg (by rw [hv]; simp), hf]; rfl
theorem clash_four {p : Post} (hv : postB p = true) {x : Nat → Int} (hx : Sol p (allR p) x) : ClashOut p = (0, 4) := by
  unfold ClashOut
  rw [if_neg (by rw [hv]; simp), if_pos (sol_ok hv hx)]
/-! ### who breaks the by-law -/
def brS (p : Post) (x : Nat → Int) : Nat := setTo (fun i => decide (Brk p x i)) p.bathers.length
def allS (p : Post) : Nat := setTo (fun i => !canBreak p i false) p.bathers.length
def someS (p : Post) : Nat := setTo (fun i => canBreak p i true) p.bathers.length
theorem can_iff {p : Post} (hv : postB p = true) {i : Nat} (hi : i < p.bathers.length) (b : Bool) : canBreak p i b = true ↔ ∃ x, Sol p (allR p) x ∧ (Brk p x i ↔ b = true) := by
  unfold canBreak
  rw [far_ok ((allR_in hv).app (RulesP.one (sideR_in hi b))).in]
  simp only [sol_app, side_brk]
theorem all_brk {p : Post} (hv : postB p = true) {x : Nat → Int} (hx : Sol p (allR p) x) {i : Nat} (hi : i < p.bathers.length) (h : (!canBreak p i false) = true) : Brk p x i := by
  apply Decidable.byContradiction
  intro hn
  have := (can_iff hv hi false).2 ⟨x, hx, by simp [hn]⟩
  rw [this] at h; cases h
theorem brk_some {p : Post} (hv : postB p = true) {x : Nat → Int} (hx : Sol p (allR p) x) {i : Nat} (hi : i < p.bathers.length) (h : Brk p x i) : canBreak p i true = true :=
  (can_iff hv hi true).2 ⟨x, hx, by simp [h]⟩
theorem setTo_bit (f : Nat → Bool) : ∀ k i, i < k → (setTo f k / 2 ^ i % 2 = 1 ↔ f i = true) := by
  intro k
  induction k with
  | zero => intro i hi; omega
  | succ k ih =>
    intro i hi
    have hl := setTo_lt f k
    simp only [setTo]
    rcases Nat.lt_or_ge i k with h | h
    · have e : 2 ^ k = 2 ^ i * (2 * 2 ^ (k - i - 1)) := by
        rw [← Nat.pow_succ', ← Nat.pow_add]; congr 1; omega
      split
      · rw [e, Nat.add_mul_div_left _ _ (Nat.two_pow_pos i), Nat.add_mul_mod_self_left]; exact ih i h
      · exact ih i h
    · obtain rfl : i = k := by omega
      split
      · rename_i hf
        rw [Nat.add_div_right _ (Nat.two_pow_pos i), Nat.div_eq_of_lt hl]; simp [hf]
      · rename_i hf
        rw [Nat.div_eq_of_lt hl]; simp [hf]
theorem setTo_sub {f g : Nat → Bool} {n : Nat} (h : ∀ i, i < n → f i = true → g i = true) : ∀ i, setTo f n / 2 ^ i % 2 = 1 → setTo g n / 2 ^ i % 2 = 1 := fun i hb => by
  rcases Nat.lt_or_ge i n with hi | hi
  · exact (setTo_bit g n i hi).2 (h i hi ((setTo_bit f n i hi).1 hb))
  · have := setTo_lt f n
    have h2 : 2 ^ n ≤ 2 ^ i := Nat.pow_le_pow_right (by omega) hi
    rw [Nat.div_eq_of_lt (by omega)] at hb; cases hb
theorem setTo_32 (f : Nat → Bool) {n : Nat} (h : n ≤ 5) : setTo f n < 32 := by
  have := setTo_lt f n
  have h2 : 2 ^ n ≤ 2 ^ 5 := Nat.pow_le_pow_right (by omega) h
  omega
theorem sub_pop : ∀ a, a < 32 → ∀ b, b < 32 → (∀ i, i < 5 → a / 2 ^ i % 2 = 1 → b / 2 ^ i % 2 = 1) → pop a ≤ pop b := of_decide_eq_true (by kernel_rfl)
theorem sub_not : ∀ a : Nat, a < 32 → ∀ b : Nat, b < 32 → (∀ i, i < 5 → a / 2 ^ i % 2 = 1 → b / 2 ^ i % 2 = 1) → IntKind.i64.wrap ((BitVec.ofInt 64 (a : Int) &&& ~~~(BitVec.ofInt 64 (b : Int))).toNat) = 0 := of_decide_eq_true (by kernel_rfl)
theorem brk_pop (p : Post) (x : Nat → Int) : ∀ n, n ≤ 5 → brkTo p x 0 n = ((pop (setTo (fun i => decide (Brk p x i)) n) : Nat) : Int) := by
  intro n hn
  rcases (show n = 0 ∨ n = 1 ∨ n = 2 ∨ n = 3 ∨ n = 4 ∨ n = 5 by omega) with rfl | rfl | rfl | rfl | rfl | rfl
  · simp [brkTo, setTo, pop]
  all_goals
    by_cases h0 : Brk p x 0 <;> by_cases h1 : Brk p x 1 <;> by_cases h2 : Brk p x 2 <;> by_cases h3 : Brk p x 3 <;> by_cases h4 : Brk p x 4 <;> simp [brkTo, setTo, pop, h0, h1, h2, h3, h4]
theorem brk_mem {p : Post} (hv : postB p = true) {x : Nat → Int} (hx : Sol p (allR p) x) : ((pop (brS p x) : Nat) : Int) ∈ brokeL p :=
  (brokeL_iff hv _).2 ⟨x, hx, (brk_pop p x _ (post_num hv).2.1).symm⟩
theorem mem_brk {p : Post} (hv : postB p = true) {v : Int} (h : v ∈ brokeL p) : ∃ x, Sol p (allR p) x ∧ v = ((pop (brS p x) : Nat) : Int) := by
  obtain ⟨x, hx, e⟩ := (brokeL_iff hv v).1 h
  exact ⟨x, hx, by rw [e, brk_pop p x _ (post_num hv).2.1]; rfl⟩
theorem all_pop {p : Post} (hv : postB p = true) {x : Nat → Int} (hx : Sol p (allR p) x) : pop (allS p) ≤ pop (brS p x) :=
  sub_pop _ (setTo_32 _ (post_num hv).2.1) _ (setTo_32 _ (post_num hv).2.1) fun i _ => setTo_sub (fun i hi h => decide_eq_true (all_brk hv hx hi h)) i
theorem some_pop {p : Post} (hv : postB p = true) {x : Nat → Int} (hx : Sol p (allR p) x) : pop (brS p x) ≤ pop (someS p) :=
  sub_pop _ (setTo_32 _ (post_num hv).2.1) _ (setTo_32 _ (post_num hv).2.1) fun i _ => setTo_sub (fun i hi h => brk_some hv hx hi (of_decide_eq_true h)) i
theorem all_not {p : Post} (hv : postB p = true) {x : Nat → Int} (hx : Sol p (allR p) x) : IntKind.i64.wrap ((BitVec.ofInt 64 ((allS p : Nat) : Int) &&& ~~~(BitVec.ofInt 64 ((brS p x : Nat) : Int))).toNat) = 0 :=
  sub_not _ (setTo_32 _ (post_num hv).2.1) _ (setTo_32 _ (post_num hv).2.1) fun i _ => setTo_sub (fun i hi h => decide_eq_true (all_brk hv hx hi h)) i
theorem some_not {p : Post} (hv : postB p = true) {x : Nat → Int} (hx : Sol p (allR p) x) : IntKind.i64.wrap ((BitVec.ofInt 64 ((brS p x : Nat) : Int) &&& ~~~(BitVec.ofInt 64 ((someS p : Nat) : Int))).toNat) = 0 :=
  sub_not _ (setTo_32 _ (post_num hv).2.1) _ (setTo_32 _ (post_num hv).2.1) fun i _ => setTo_sub (fun i hi h => brk_some hv hx hi (of_decide_eq_true h)) i
/-! ### least and most -/
theorem minTo_le (l : List Int) : ∀ k i, i < k → minTo l k ≤ gt l i := by
  intro k
  induction k with
  | zero => intro i hi; omega
  | succ k ih =>
    intro i hi
    simp only [minTo]
    rcases Nat.lt_or_ge i k with h | h
    · have := ih i h; omega
    · obtain rfl : i = k := by omega
      omega
theorem le_maxTo (l : List Int) : ∀ k i, i < k → gt l i ≤ maxTo l k := by
  intro k
  induction k with
  | zero => intro i hi; omega
  | succ k ih =>
    intro i hi
    simp only [maxTo]
    rcases Nat.lt_or_ge i k with h | h
    · have := ih i h; omega
    · obtain rfl : i = k := by omega
      omega
theorem minTo_mem (l : List Int) : ∀ k, 0 < k → ∃ i, i < k ∧ minTo l k = gt l i := by
  intro k
  induction k with
  | zero => intro h; omega
  | succ k ih =>
    intro _
    rcases Nat.eq_zero_or_pos k with rfl | h
    · exact ⟨0, by omega, by simp [minTo]⟩
    · obtain ⟨i, hi, e⟩ := ih h
      simp only [minTo, e]
      by_cases hc : gt l i ≤ gt l k
      · exact ⟨i, by omega, by omega⟩
      · exact ⟨k, by omega, by omega⟩
theorem maxTo_mem (l : List Int) : ∀ k, 0 < k → ∃ i, i < k ∧ maxTo l k = gt l i := by
  intro k
  induction k with
  | zero => intro h; omega
  | succ k ih =>
    intro _
    rcases Nat.eq_zero_or_pos k with rfl | h
    · exact ⟨0, by omega, by simp [maxTo]⟩
    · obtain ⟨i, hi, e⟩ := ih h
      simp only [maxTo, e]
      by_cases hc : gt l k ≤ gt l i
      · exact ⟨i, by omega, by omega⟩
      · exact ⟨k, by omega, by omega⟩
end Go.Proofs.Ytkhmmefgllbobaa
/- The posts that are made by draws, with their truth; no program in sight. -/
namespace Go.Po
open Go.W (gt gt_of)
def drawV (by_ : List Int) (j : Nat) (n : Int) : Int := if by_.length = 0 then (j : Int) % n else (gt by_ (j % by_.length) + 53 * (j : Int)) % n
theorem drawV_num (by_ : List Int) (j : Nat) {n : Int} (h : 1 ≤ n) : 0 ≤ drawV by_ j n ∧ drawV by_ j n < n := by
  unfold drawV; split
  · exact ⟨Int.emod_nonneg _ (by omega), Int.emod_lt_of_pos _ (by omega)⟩
  · exact ⟨Int.emod_nonneg _ (by omega), Int.emod_lt_of_pos _ (by omega)⟩
/-- a span about a place -/
def about (by_ : List Int) (v : Int) (j : Nat) : Sp := ⟨max 0 (v - drawV by_ (j + 1) 6), min 40 (v + drawV by_ (j + 2) 6)⟩
def at0 (by_ : List Int) (j : Nat) : Int := drawV by_ (j + 1) 41
def nB (by_ : List Int) (j : Nat) : Nat := (drawV by_ (j + 4) 6).toNat
def atB (by_ : List Int) (j k : Nat) : Int := max 0 (min 40 (at0 by_ j - 8 + drawV by_ (j + 4 + 4 * k + 1) 17))
def bathM (by_ : List Int) (j k : Nat) : Bath := ⟨decide (drawV by_ (j + 4 + 4 * k + 2) 2 = 0), about by_ (atB by_ j k) (j + 4 + 4 * k + 2)⟩
def bathsM (by_ : List Int) (j n : Nat) : List Bath := (List.range n).map (bathM by_ j)
/-- the places: the post's, then the bathers' -/
def atsM (by_ : List Int) (j n : Nat) : List Int := at0 by_ j :: (List.range n).map (atB by_ j)
def nC (by_ : List Int) (j : Nat) : Nat := (drawV by_ (j + 4 + 4 * nB by_ j + 1) 9).toNat
def whoM (by_ : List Int) (j i : Nat) : Int := drawV by_ (j + 5 + 4 * nB by_ j + i) ((nB by_ j : Int) + 1) - 1
def claimM (by_ : List Int) (j k : Nat) : PClaim := ⟨whoM by_ j (2 * k + 1), whoM by_ j (2 * k + 2), decide (gt (atsM by_ j (nB by_ j)) (whoM by_ j (2 * k + 2) + 1).toNat ≤ gt (atsM by_ j (nB by_ j)) (whoM by_ j (2 * k + 1) + 1).toNat)⟩
def claimsM (by_ : List Int) (j n : Nat) : List PClaim := (List.range n).map (claimM by_ j)
def madeP (by_ : List Int) (j : Nat) : Post := ⟨about by_ (at0 by_ j) (j + 1), bathsM by_ j (nB by_ j), claimsM by_ j (nC by_ j)⟩
def madeN (by_ : List Int) (j : Nat) : Nat := j + 5 + 4 * nB by_ j + 2 * nC by_ j
theorem at0_num (by_ : List Int) (j : Nat) : 0 ≤ at0 by_ j ∧ at0 by_ j ≤ 40 := by
  have := drawV_num by_ (j + 1) (n := 41) (by omega)
  unfold at0; omega
theorem nB_num (by_ : List Int) (j : Nat) : nB by_ j ≤ 5 ∧ ((nB by_ j : Nat) : Int) = drawV by_ (j + 4) 6 := by
  have := drawV_num by_ (j + 4) (n := 6) (by omega)
  unfold nB; omega
theorem nC_num (by_ : List Int) (j : Nat) : nC by_ j ≤ 8 ∧ ((nC by_ j : Nat) : Int) = drawV by_ (j + 4 + 4 * nB by_ j + 1) 9 := by
  have := drawV_num by_ (j + 4 + 4 * nB by_ j + 1) (n := 9) (by omega)
  unfold nC; omega
theorem atB_num (by_ : List Int) (j k : Nat) : 0 ≤ atB by_ j k ∧ atB by_ j k ≤ 40 := by unfold atB; omega
theorem about_num (by_ : List Int) {v : Int} (j : Nat) (h : 0 ≤ v ∧ v ≤ 40) : 0 ≤ (about by_ v j).lo ∧ (about by_ v j).lo ≤ v ∧ v ≤ (about by_ v j).hi ∧ (about by_ v j).hi ≤ 40 := by
  have h1 := drawV_num by_ (j + 1) (n := 6) (by omega)
  have h2 := drawV_num by_ (j + 2) (n := 6) (by omega)
  unfold about; dsimp only; omega
theorem whoM_num (by_ : List Int) (j i : Nat) : -1 ≤ whoM by_ j i ∧ whoM by_ j i < (nB by_ j : Int) := by
  have := drawV_num by_ (j + 5 + 4 * nB by_ j + i) (n := (nB by_ j : Int) + 1) (by omega)
  unfold whoM; omega
theorem gtM {α : Type} [Inhabited α] (f : Nat → α) {n i : Nat} (h : i < n) : gt ((List.range n).map f) i = f i := by
  simp [gt, List.getD, h]
theorem bathsM_len (by_ : List Int) (j n : Nat) : (bathsM by_ j n).length = n := by simp [bathsM]
theorem claimsM_len (by_ : List Int) (j n : Nat) : (claimsM by_ j n).length = n := by simp [claimsM]
theorem made_ok (by_ : List Int) (j : Nat) : postB (madeP by_ j) = true := by
  have hb : (madeP by_ j).bathers.length = nB by_ j := bathsM_len _ _ _
  have hc : (madeP by_ j).claims.length = nC by_ j := claimsM_len _ _ _
  refine (postB_iff _).2 ⟨?_, by rw [hb]; exact (nB_num by_ j).1, by rw [hc]; exact (nC_num by_ j).1, fun i hi => ?_, fun i hi => ?_⟩
  · have := about_num by_ (j + 1) (at0_num by_ j)
    exact decide_eq_true ⟨this.1, Int.le_trans this.2.1 this.2.2.1, this.2.2.2⟩
  · rw [hb] at hi
    have := about_num by_ (j + 4 + 4 * i + 2) (atB_num by_ j i)
    rw [show gt (madeP by_ j).bathers i = bathM by_ j i from gtM _ hi]
    exact decide_eq_true ⟨this.1, Int.le_trans this.2.1 this.2.2.1, this.2.2.2⟩
  · rw [hc] at hi
    have h1 := whoM_num by_ j (2 * i + 1)
    have h2 := whoM_num by_ j (2 * i + 2)
    rw [show gt (madeP by_ j).claims i = claimM by_ j i from gtM _ hi]
    simp only [claimP, whoP, claimM, hb, decide_eq_true_eq, Bool.and_eq_true]; omega
/-- the truth that they were made from -/
def xM (by_ : List Int) (j : Nat) (i : Nat) : Int := if i = 0 then 0 else gt (atsM by_ j (nB by_ j)) (i - 1)
theorem xM_ix (by_ : List Int) (j : Nat) {n : Int} (h : -1 ≤ n) : xM by_ j (ix n) = gt (atsM by_ j (nB by_ j)) (n + 1).toNat := by
  unfold xM ix
  rw [if_neg (by omega)]
  congr 1; omega
theorem selR_all {p : Post} {s : Nat} {q : Rule → Prop} (h : ∀ i, i < p.claims.length → q (claimR (gt p.claims i))) : ∀ k, k ≤ p.claims.length → ∀ r ∈ selR p s k, q r := by
  intro k
  induction k with
  | zero => intro _ r hr; cases hr
  | succ k ih =>
    intro hk r hr
    simp only [selR] at hr
    split at hr
    · rcases List.mem_append.1 hr with h1 | h1
      · exact ih (by omega) r h1
      · rw [List.mem_singleton.1 h1]; exact h k (by omega)
    · exact ih (by omega) r hr
theorem made_sol (by_ : List Int) (j : Nat) : Sol (madeP by_ j) (allR (madeP by_ j)) (xM by_ j) := by
  have hb : (madeP by_ j).bathers.length = nB by_ j := bathsM_len _ _ _
  have hc : (madeP by_ j).claims.length = nC by_ j := claimsM_len _ _ _
  refine ⟨rfl, fun i hi => ?_, fun i hi => ?_⟩
  · match i with
    | 0 => exact ⟨Int.le_refl _, Int.le_refl _⟩
    | 1 =>
      have := about_num by_ (j + 1) (at0_num by_ j)
      exact ⟨this.2.1, this.2.2.1⟩
    | i + 2 =>
      have hi' : i < nB by_ j := by unfold nodes at hi; omega
      have := about_num by_ (j + 4 + 4 * i + 2) (atB_num by_ j i)
      have e : gt (madeP by_ j).bathers i = bathM by_ j i := gtM _ hi'
      have ex : xM by_ j (i + 2) = atB by_ j i := by
        show gt (at0 by_ j :: (List.range (nB by_ j)).map (atB by_ j)) (i + 1) = _
        exact gtM (atB by_ j) hi'
      show (gt (madeP by_ j).bathers i).place.lo ≤ _ ∧ _ ≤ (gt (madeP by_ j).bathers i).place.hi
      rw [e, ex]
      exact ⟨this.2.1, this.2.2.1⟩
  · refine selR_all (q := RuleOk (xM by_ j)) (fun k hk => ?_) _ (Nat.le_refl _) _ (gt_mem hi)
    rw [hc] at hk
    have h1 := whoM_num by_ j (2 * k + 1)
    have h2 := whoM_num by_ j (2 * k + 2)
    rw [show gt (madeP by_ j).claims k = claimM by_ j k from gtM _ hk]
    unfold claimR claimM
    dsimp only
    split
    · rename_i h
      have h3 := of_decide_eq_true h
      unfold RuleOk
      simp only [Bool.false_eq_true, if_false]
      rw [xM_ix _ _ h1.1, xM_ix _ _ h2.1]; exact h3
    · rename_i h
      have h3 : ¬ (gt (atsM by_ j (nB by_ j)) (whoM by_ j (2 * k + 2) + 1).toNat ≤ gt (atsM by_ j (nB by_ j)) (whoM by_ j (2 * k + 1) + 1).toNat) := fun hh => h (decide_eq_true hh)
      unfold RuleOk
      simp only [if_true]
      rw [xM_ix _ _ h1.1, xM_ix _ _ h2.1]; omega
end Go.Po
namespace Go.Proofs.Ytkhmmefgllbobaa
open Go.W Go.Po
theorem FA42_0 : FieldAt Try.prog 42 0 0 := FieldAt.mk (t := 3) (off := 0) Try.underlying42 rfl Try.sizeOf3 (by decide)
theorem FA42_1 : FieldAt Try.prog 42 1 1 := FieldAt.mk (t := 3) (off := 1) Try.underlying42 rfl Try.sizeOf3 (by decide)
theorem FA42_2 : FieldAt Try.prog 42 2 2 := FieldAt.mk (t := 3) (off := 2) Try.underlying42 rfl Try.sizeOf3 (by decide)
theorem SA42 : StructAt Try.prog 42 [.int .i64 0, .int .i64 0, .int .i64 0] [(0, 1), (1, 1), (2, 1)] := ⟨⟨_, Try.zeroValue42, rfl⟩, _, Try.underlying42, fun w => by simp [Try.sizeOf3]⟩
def trL : List (Int × Int × Int) := [(0, 5, 11), (2, 10, 12), (-1, 10, 12)]
def trC (x : Int × Int × Int) : List Value := [it x.1, it x.2.1, it x.2.2]
theorem tr_place {k : Nat} (hk : k < 3) : PlaceOut (sampP []) (gt trL k).1 = (⟨(gt trL k).2.1, (gt trL k).2.2⟩, 0) := by
  rcases (show k = 0 ∨ k = 1 ∨ k = 2 by omega) with rfl | rfl | rfl <;> kernel_rfl
theorem an1 : BeforeOut (sampP []) (-1) 0 = (0, 0) := by kernel_rfl
theorem an2 : NearOut (sampP []) 1 2 = (⟨1, 3⟩, 0) := by kernel_rfl
theorem an3 : FalseOut (sampP []) = (0, 0, 0) := by kernel_rfl
theorem an4 : (ClashOut (sampP [])).2 = 4 := by kernel_rfl
theorem an5 : (KeptOut (sampP [⟨2, 1, false⟩])).2 = 10 := by kernel_rfl

set_option maxRecDepth 100000 in
set_option maxHeartbeats 1000000 in
theorem names_g (D : Imm) (w : World) (hH : Holds D w) : Gives Try.prog 5 [] w (.bool true) := by
  unfold Gives
  refine enter Try.func5 rfl 112 Try.ntmps5 (Nat.le_of_ble_eq_true rfl) (Inv.start hH) ?_
  refine WC.seq ?_
  refine WC.ofFr [] trivial ?_
  refine WC.region ?_
  refine WL.yd (Yd.assign rfl) rfl ?_
  refine WL.nil ?_
  refine WP.thenC ?_
  refine WC.seq ?_
  refine WC.seq ?_
  refine WC.ofFr [(0, _)] ⟨rfl, trivial⟩ ?_
  refine WC.region ?_
  refine WL.yd (Yd.build SA42 rfl (cs := [_, _, _]) rfl) rfl ?_
  refine WL.yd (Yd.build SA42 rfl (cs := [_, _, _]) rfl) rfl ?_
  refine WL.yd (Yd.build SA42 rfl (cs := [_, _, _]) rfl) rfl ?_
  refine WL.so (SO.buildSlice Try.underlying43 Try.sizeOf42 Try.zeroValue42 rfl rfl rfl rfl (cs := [_, _, _, _, _, _, _, _, _]) rfl) rfl ?_
  rintro _ _ _ ⟨b19, hb19, rfl, rfl, rfl⟩ -- NEW
  refine WL.yd (Yd.lenS rfl Try.underlying43 rfl) rfl ?_
  refine WL.yd (Yd.move rfl) rfl ?_
  refine WL.nil ?_
  refine WP.thenC ?_
  refine WC.block ?_
  refine WC.freezeK 0 rfl (fun hn19 => ?_)
  have hS : SlL (D.add b19 _) 3 (trL.map trC) (some ⟨b19, 0, none⟩) 3 := SlL.ofBlock (f := trC) (m := 3) (t := 42) (fz := (0, 0)) (l := trL) (rest := []) (fun _ => rfl) (Imm.add_self _ _ _)
  refine WC.loop (fun y : Nat × Imm => [(19, .slice (some ⟨b19, 0, none⟩) 3 3), (20, nt 3), (21, nt y.1)]) (fun _ => []) (fun y => y.2) (fun y => y.1 ≤ 3 ∧ SlL y.2 3 (trL.map trC) (some ⟨b19, 0, none⟩) 3) (fun y => 3 - y.1) (0, _) ⟨by omega, hS⟩ (fun a w h => at_fr h ⟨rfl, rfl, rfl, trivial⟩) ?_
  clear hS
  rintro ⟨k, D1⟩ ⟨hk, hS⟩
  dsimp only at hk hS
  refine WC.seq ?_
  refine WC.ofFr [(19, _), (20, _), (21, _)] ⟨rfl, rfl, rfl, trivial⟩ ?_
  refine WC.region ?_
  refine WL.yd (Yd.lss rfl rfl) rfl ?_
  refine WL.nil ?_
  refine WP.thenC ?_
  refine WC.seq ?_
  refine WC.cond rfl (fun c22 => ?_) (fun c22 => ?_)
  · try simp only [zq1, zq2, zq3, zq4, zq5, zq6, zq7, zq8] at c22
    have hk3 : k < 3 := by omega
    refine WC.skip ?_
    refine WP.thenC ?_
    refine WC.seq ?_
    refine WC.block ?_
    refine WC.seq ?_
    refine WC.ofFr [(19, _), (20, _), (21, _)] ⟨rfl, rfl, rfl, trivial⟩ ?_
    refine WC.region ?_
    refine WL.yd (Yd.indexS Try.underlying43 Try.sizeOf42 rfl rfl (by omega) (by omega) (by first | exact hS.addr k (by omega))) rfl ?_
    refine WL.yd (Yd.loadN Try.isAgg42 Try.sizeOf42 rfl (vs := [_, _, _]) rfl (by first | exact (hS.at k (by omega)).rdn 0 3 rfl)) rfl ?_
    refine WL.so (SO.alloc Try.zeroValue42 rfl) rfl ?_
    rintro _ _ _ ⟨b2, hb2, rfl, rfl, rfl⟩ -- NEW
    refine WL.so (SO.store 0 rfl Try.sizeOf42 rfl rfl rfl rfl (Nat.le_of_ble_eq_true rfl) (oneB_spec rfl)) rfl ?_
    rintro _ _ _ ⟨rfl, rfl, rfl⟩
    refine WL.nil ?_
    refine WP.thenC ?_
    refine WC.seq ?_
    refine WC.ofFr [(2, _), (19, _), (20, _), (21, _)] ⟨rfl, rfl, rfl, rfl, trivial⟩ ?_
    refine WC.drawH [_] (by kernel_rfl) (fun _ hI => hI) ?_
    refine WH.yd (i := 1) (by kernel_rfl) (fun _ o v c a w _ h => (QuietPanic.then (QuietPanic.blk (QuietPanic.then (QuietPanic.then (QuietPanic.blk (QuietPanic.then QuietPanic.body)))))) c o.dst v a w h) rfl (Yd.fieldAddr FA42_0 rfl) rfl ?_
    refine WH.yd (i := 2) (by kernel_rfl) (fun _ o v c a w _ h => (QuietPanic.then (QuietPanic.blk (QuietPanic.then (QuietPanic.then (QuietPanic.blk (QuietPanic.then QuietPanic.body)))))) c o.dst v a w h) rfl (Yd.load1 Try.isAgg3 rfl (by first | exact Rd.own (k := 0) rfl rfl)) rfl ?_
    refine WH.two (i := 0) (j := 7) (by kernel_rfl) ?_ ?_
    · refine WHo.so rfl (SO.makes (Enters.func Try.call31 rfl) (fun w hI => sample_g [] none 0 0 _ w ⟨rfl, fun i r hr => by simp at hr⟩ (fun _ => rfl) (by decide) hI.imm)) rfl ?_
      rintro _ D11 _ ⟨hX11, ⟨a1_11, c1_11, a2_11, c2_11, rfl, hR11⟩, rfl⟩
      have hS := hS.ext hX11
      refine ⟨(fun _ hI => hI.shrink hX11.old), ?_⟩
      refine WH.two (i := 3) (j := 7) (by kernel_rfl) ?_ ?_
      · refine WHo.so rfl (SO.callP Try.call15 rfl (fun w hI => Gives.cv (.tuple #[.agg #[it (gt trL k).2.1, it (gt trL k).2.2], it 0]) (Place_g (sampP []) a1_11 _ c1_11 a2_11 _ c2_11 _ w hR11 hI.imm (gt trL k).1) (by rw [tr_place hk3]))) rfl ?_
        rintro _ _ _ ⟨rfl, rfl, rfl⟩
        refine ⟨(fun _ hI => hI.shrink hX11.old), ?_⟩
        refine WH.yd (i := 4) (by kernel_rfl) (fun _ o v c a w _ h => (QuietPanic.then (QuietPanic.blk (QuietPanic.then (QuietPanic.then (QuietPanic.blk (QuietPanic.then QuietPanic.body)))))) c o.dst v a w h) rfl (Yd.move rfl) rfl ?_
        refine WH.yd (i := 5) (by kernel_rfl) (fun _ o v c a w _ h => (QuietPanic.then (QuietPanic.blk (QuietPanic.then (QuietPanic.then (QuietPanic.blk (QuietPanic.then QuietPanic.body)))))) c o.dst v a w h) rfl (Yd.extract rfl rfl) rfl ?_
        refine WH.yd (i := 6) (by kernel_rfl) (fun _ o v c a w _ h => (QuietPanic.then (QuietPanic.blk (QuietPanic.then (QuietPanic.then (QuietPanic.blk (QuietPanic.then QuietPanic.body)))))) c o.dst v a w h) rfl (Yd.extract rfl rfl) rfl ?_
        refine WH.one (i := 7) (by kernel_rfl) (WHo.so rfl (SO.alloc Try.zeroValue23 rfl) rfl ?_)
        rintro _ _ _ ⟨b3, hb3, rfl, rfl, rfl⟩ -- NEW
        refine ⟨(fun _ hI => (hI.drop 1).shrink hX11.old), ?_⟩
        refine WH.one (i := 8) (by kernel_rfl) (WHo.so rfl (SO.store 0 rfl Try.sizeOf23 rfl rfl rfl rfl (Nat.le_of_ble_eq_true rfl) (oneB_spec rfl)) rfl ?_)
        rintro _ _ _ ⟨rfl, rfl, rfl⟩
        refine ⟨(fun _ hI => (hI.drop 1).shrink hX11.old), ?_⟩
        refine WH.yd (i := 9) (by kernel_rfl) (fun _ o v c a w _ h => (QuietPanic.then (QuietPanic.blk (QuietPanic.then (QuietPanic.then (QuietPanic.blk (QuietPanic.then QuietPanic.body)))))) c o.dst v a w h) rfl (Yd.assign rfl) rfl ?_
        refine WH.nil (by kernel_rfl) ?_
        refine WP.thenC ?_
        refine WC.seq ?_
        refine WC.ofFr [(4, _), (3, _), (2, _), (19, _), (20, _), (21, _)] ⟨rfl, rfl, rfl, rfl, rfl, rfl, trivial⟩ ?_
        refine WC.tail 6 [0, 1, 2, 3, 4, 5] rfl (by kernel_rfl) (by kernel_rfl)  ?_
        refine WQ.q rfl (Yd.qt (Yd.loadN Try.isAgg23 Try.sizeOf23 rfl (vs := [_, _]) rfl (by first | exact RdN.own (k := 0) (n := 2) rfl rfl | exact RdN.own (k := 1) (n := 2) rfl rfl | exact (hS.at k (by omega)).rdn 0 3 rfl))) rfl ?_
        refine WQ.q rfl (Yd.qt (Yd.fieldAddr FA42_1 rfl)) rfl ?_
        refine WQ.q rfl (Yd.qt (Yd.load1 Try.isAgg3 rfl (by first | exact Rd.own (k := 0) rfl rfl | exact Rd.own (k := 1) rfl rfl))) rfl ?_
        refine WQ.q rfl (Yd.qt (Yd.fieldAddr FA42_2 rfl)) rfl ?_
        refine WQ.q rfl (Yd.qt (Yd.load1 Try.isAgg3 rfl (by first | exact Rd.own (k := 0) rfl rfl | exact Rd.own (k := 1) rfl rfl))) rfl ?_
        refine WQ.q rfl (Qt.callP Try.call32 rfl (fun w hI => lspan_g _ _ _)) rfl ?_
        refine WQ.tail ?_
        refine WL.yd (Yd.neS Try.eqGuardType23 (eq23 _ _ _ _) rfl rfl) rfl ?_
        refine WL.know 38 (.bool false) rfl (congrArg Value.bool (by simp)) ?_
        refine WL.yd (Yd.move rfl) rfl ?_
        refine WL.ydg rfl (Yd.move rfl) rfl ?_
        refine WL.ydg rfl (Yd.neq rfl rfl) rfl ?_
        refine WL.know 41 (.bool false) rfl (congrArg Value.bool (by decide)) ?_
        refine WL.yd (Yd.pickF rfl rfl) rfl ?_
        refine WL.nil ?_
        refine WP.thenC ?_
        refine WC.condF rfl ?_
        refine WC.skip ?_
        refine WP.blkNormal ?_
        refine WP.thenC ?_
        refine WC.ofFr [(19, _), (20, _), (21, _)] ⟨rfl, rfl, rfl, trivial⟩ ?_
        refine WC.region ?_
        refine WL.yd (Yd.add rfl rfl (wr64 ⟨by omega, by omega⟩)) rfl ?_
        refine WL.yd (Yd.move rfl) rfl ?_
        refine WL.nil ?_
        refine WP.again (⟨k + 1, _⟩ : Nat × Imm) ⟨by simp only; omega, hS⟩ (by simp only; omega) (fun aa ww h => at_less h ⟨rfl, rfl, rfl, trivial⟩ (fun _ h => by cases h) (fun _ => by simp))
      · refine WHo.so rfl (SO.alloc Try.zeroValue23 rfl) rfl ?_
        rintro _ _ _ ⟨b3, hb3, rfl, rfl, rfl⟩ -- NEW
        refine ⟨(fun _ hI => (hI.drop 1).shrink hX11.old), ?_⟩
        refine WH.one (i := 3) (by kernel_rfl) (WHo.so rfl (SO.callP Try.call15 rfl (fun w hI => Gives.cv (.tuple #[.agg #[it (gt trL k).2.1, it (gt trL k).2.2], it 0]) (Place_g (sampP []) a1_11 _ c1_11 a2_11 _ c2_11 _ w hR11 hI.imm (gt trL k).1) (by rw [tr_place hk3]))) rfl ?_)
        rintro _ _ _ ⟨rfl, rfl, rfl⟩
        refine ⟨(fun _ hI => (hI.drop 1).shrink hX11.old), ?_⟩
        refine WH.yd (i := 4) (by kernel_rfl) (fun _ o v c a w _ h => (QuietPanic.then (QuietPanic.blk (QuietPanic.then (QuietPanic.then (QuietPanic.blk (QuietPanic.then QuietPanic.body)))))) c o.dst v a w h) rfl (Yd.move rfl) rfl ?_
        refine WH.yd (i := 5) (by kernel_rfl) (fun _ o v c a w _ h => (QuietPanic.then (QuietPanic.blk (QuietPanic.then (QuietPanic.then (QuietPanic.blk (QuietPanic.then QuietPanic.body)))))) c o.dst v a w h) rfl (Yd.extract rfl rfl) rfl ?_
        refine WH.yd (i := 6) (by kernel_rfl) (fun _ o v c a w _ h => (QuietPanic.then (QuietPanic.blk (QuietPanic.then (QuietPanic.then (QuietPanic.blk (QuietPanic.then QuietPanic.body)))))) c o.dst v a w h) rfl (Yd.extract rfl rfl) rfl ?_
        refine WH.one (i := 8) (by kernel_rfl) (WHo.so rfl (SO.store 0 rfl Try.sizeOf23 rfl rfl rfl rfl (Nat.le_of_ble_eq_true rfl) (oneB_spec rfl)) rfl ?_)
        rintro _ _ _ ⟨rfl, rfl, rfl⟩
        refine ⟨(fun _ hI => (hI.drop 1).shrink hX11.old), ?_⟩
        refine WH.yd (i := 9) (by kernel_rfl) (fun _ o v c a w _ h => (QuietPanic.then (QuietPanic.blk (QuietPanic.then (QuietPanic.then (QuietPanic.blk (QuietPanic.then QuietPanic.body)))))) c o.dst v a w h) rfl (Yd.assign rfl) rfl ?_
        refine WH.nil (by kernel_rfl) ?_
        refine WP.thenC ?_
        refine WC.seq ?_
        refine WC.ofFr [(4, _), (3, _), (2, _), (19, _), (20, _), (21, _)] ⟨rfl, rfl, rfl, rfl, rfl, rfl, trivial⟩ ?_
        refine WC.tail 6 [0, 1, 2, 3, 4, 5] rfl (by kernel_rfl) (by kernel_rfl)  ?_
        refine WQ.q rfl (Yd.qt (Yd.loadN Try.isAgg23 Try.sizeOf23 rfl (vs := [_, _]) rfl (by first | exact RdN.own (k := 0) (n := 2) rfl rfl | exact RdN.own (k := 1) (n := 2) rfl rfl | exact (hS.at k (by omega)).rdn 0 3 rfl))) rfl ?_
        refine WQ.q rfl (Yd.qt (Yd.fieldAddr FA42_1 rfl)) rfl ?_
        refine WQ.q rfl (Yd.qt (Yd.load1 Try.isAgg3 rfl (by first | exact Rd.own (k := 0) rfl rfl | exact Rd.own (k := 1) rfl rfl))) rfl ?_
        refine WQ.q rfl (Yd.qt (Yd.fieldAddr FA42_2 rfl)) rfl ?_
        refine WQ.q rfl (Yd.qt (Yd.load1 Try.isAgg3 rfl (by first | exact Rd.own (k := 0) rfl rfl | exact Rd.own (k := 1) rfl rfl))) rfl ?_
        refine WQ.q rfl (Qt.callP Try.call32 rfl (fun w hI => lspan_g _ _ _)) rfl ?_
        refine WQ.tail ?_
        refine WL.yd (Yd.neS Try.eqGuardType23 (eq23 _ _ _ _) rfl rfl) rfl ?_
        refine WL.know 38 (.bool false) rfl (congrArg Value.bool (by simp)) ?_
        refine WL.yd (Yd.move rfl) rfl ?_
        refine WL.ydg rfl (Yd.move rfl) rfl ?_
        refine WL.ydg rfl (Yd.neq rfl rfl) rfl ?_
        refine WL.know 41 (.bool false) rfl (congrArg Value.bool (by decide)) ?_
        refine WL.yd (Yd.pickF rfl rfl) rfl ?_
        refine WL.nil ?_
        refine WP.thenC ?_
        refine WC.condF rfl ?_
        refine WC.skip ?_
        refine WP.blkNormal ?_
        refine WP.thenC ?_
        refine WC.ofFr [(19, _), (20, _), (21, _)] ⟨rfl, rfl, rfl, trivial⟩ ?_
        refine WC.region ?_
        refine WL.yd (Yd.add rfl rfl (wr64 ⟨by omega, by omega⟩)) rfl ?_
        refine WL.yd (Yd.move rfl) rfl ?_
        refine WL.nil ?_
        refine WP.again (⟨k + 1, _⟩ : Nat × Imm) ⟨by simp only; omega, hS⟩ (by simp only; omega) (fun aa ww h => at_less h ⟨rfl, rfl, rfl, trivial⟩ (fun _ h => by cases h) (fun _ => by simp))
    · refine WHo.so rfl (SO.alloc Try.zeroValue23 rfl) rfl ?_
      rintro _ _ _ ⟨b3, hb3, rfl, rfl, rfl⟩ -- NEW
      refine ⟨(fun _ hI => (hI.drop 1)), ?_⟩
      refine WH.one (i := 0) (by kernel_rfl) (WHo.so rfl (SO.makes (Enters.func Try.call31 rfl) (fun w hI => sample_g [] none 0 0 _ w ⟨rfl, fun i r hr => by simp at hr⟩ (fun _ => rfl) (by decide) hI.imm)) rfl ?_)
      rintro _ D11 _ ⟨hX11, ⟨a1_11, c1_11, a2_11, c2_11, rfl, hR11⟩, rfl⟩
      have hS := hS.ext hX11
      refine ⟨(fun _ hI => (hI.drop 1).shrink hX11.old), ?_⟩
      refine WH.one (i := 3) (by kernel_rfl) (WHo.so rfl (SO.callP Try.call15 rfl (fun w hI => Gives.cv (.tuple #[.agg #[it (gt trL k).2.1, it (gt trL k).2.2], it 0]) (Place_g (sampP []) a1_11 _ c1_11 a2_11 _ c2_11 _ w hR11 hI.imm (gt trL k).1) (by rw [tr_place hk3]))) rfl ?_)
      rintro _ _ _ ⟨rfl, rfl, rfl⟩
      refine ⟨(fun _ hI => (hI.drop 1).shrink hX11.old), ?_⟩
      refine WH.yd (i := 4) (by kernel_rfl) (fun _ o v c a w _ h => (QuietPanic.then (QuietPanic.blk (QuietPanic.then (QuietPanic.then (QuietPanic.blk (QuietPanic.then QuietPanic.body)))))) c o.dst v a w h) rfl (Yd.move rfl) rfl ?_
      refine WH.yd (i := 5) (by kernel_rfl) (fun _ o v c a w _ h => (QuietPanic.then (QuietPanic.blk (QuietPanic.then (QuietPanic.then (QuietPanic.blk (QuietPanic.then QuietPanic.body)))))) c o.dst v a w h) rfl (Yd.extract rfl rfl) rfl ?_
      refine WH.yd (i := 6) (by kernel_rfl) (fun _ o v c a w _ h => (QuietPanic.then (QuietPanic.blk (QuietPanic.then (QuietPanic.then (QuietPanic.blk (QuietPanic.then QuietPanic.body)))))) c o.dst v a w h) rfl (Yd.extract rfl rfl) rfl ?_
      refine WH.one (i := 8) (by kernel_rfl) (WHo.so rfl (SO.store 0 rfl Try.sizeOf23 rfl rfl rfl rfl (Nat.le_of_ble_eq_true rfl) (oneB_spec rfl)) rfl ?_)
      rintro _ _ _ ⟨rfl, rfl, rfl⟩
      refine ⟨(fun _ hI => (hI.drop 1).shrink hX11.old), ?_⟩
      refine WH.yd (i := 9) (by kernel_rfl) (fun _ o v c a w _ h => (QuietPanic.then (QuietPanic.blk (QuietPanic.then (QuietPanic.then (QuietPanic.blk (QuietPanic.then QuietPanic.body)))))) c o.dst v a w h) rfl (Yd.assign rfl) rfl ?_
      refine WH.nil (by kernel_rfl) ?_
      refine WP.thenC ?_
      refine WC.seq ?_
      refine WC.ofFr [(4, _), (3, _), (2, _), (19, _), (20, _), (21, _)] ⟨rfl, rfl, rfl, rfl, rfl, rfl, trivial⟩ ?_
      refine WC.tail 6 [0, 1, 2, 3, 4, 5] rfl (by kernel_rfl) (by kernel_rfl)  ?_
      refine WQ.q rfl (Yd.qt (Yd.loadN Try.isAgg23 Try.sizeOf23 rfl (vs := [_, _]) rfl (by first | exact RdN.own (k := 0) (n := 2) rfl rfl | exact RdN.own (k := 1) (n := 2) rfl rfl | exact (hS.at k (by omega)).rdn 0 3 rfl))) rfl ?_
      refine WQ.q rfl (Yd.qt (Yd.fieldAddr FA42_1 rfl)) rfl ?_
      refine WQ.q rfl (Yd.qt (Yd.load1 Try.isAgg3 rfl (by first | exact Rd.own (k := 0) rfl rfl | exact Rd.own (k := 1) rfl rfl))) rfl ?_
      refine WQ.q rfl (Yd.qt (Yd.fieldAddr FA42_2 rfl)) rfl ?_
      refine WQ.q rfl (Yd.qt (Yd.load1 Try.isAgg3 rfl (by first | exact Rd.own (k := 0) rfl rfl | exact Rd.own (k := 1) rfl rfl))) rfl ?_
      refine WQ.q rfl (Qt.callP Try.call32 rfl (fun w hI => lspan_g _ _ _)) rfl ?_
      refine WQ.tail ?_
      refine WL.yd (Yd.neS Try.eqGuardType23 (eq23 _ _ _ _) rfl rfl) rfl ?_
      refine WL.know 38 (.bool false) rfl (congrArg Value.bool (by simp)) ?_
      refine WL.yd (Yd.move rfl) rfl ?_
      refine WL.ydg rfl (Yd.move rfl) rfl ?_
      refine WL.ydg rfl (Yd.neq rfl rfl) rfl ?_
      refine WL.know 41 (.bool false) rfl (congrArg Value.bool (by decide)) ?_
      refine WL.yd (Yd.pickF rfl rfl) rfl ?_
      refine WL.nil ?_
      refine WP.thenC ?_
      refine WC.condF rfl ?_
      refine WC.skip ?_
      refine WP.blkNormal ?_
      refine WP.thenC ?_
      refine WC.ofFr [(19, _), (20, _), (21, _)] ⟨rfl, rfl, rfl, trivial⟩ ?_
      refine WC.region ?_
      refine WL.yd (Yd.add rfl rfl (wr64 ⟨by omega, by omega⟩)) rfl ?_
      refine WL.yd (Yd.move rfl) rfl ?_
      refine WL.nil ?_
      refine WP.again (⟨k + 1, _⟩ : Nat × Imm) ⟨by simp only; omega, hS⟩ (by simp only; omega) (fun aa ww h => at_less h ⟨rfl, rfl, rfl, trivial⟩ (fun _ h => by cases h) (fun _ => by simp))
  · try simp only [zq1, zq2, zq3, zq4, zq5, zq6, zq7, zq8] at c22
    refine WC.exit ?_
    refine WP.thenExit ?_
    refine WP.thenExit ?_
    refine WP.blkHit ?_
    refine WP.thenC ?_
    refine WC.seq ?_
    refine WC.ofFr [] trivial ?_
    refine WC.region ?_
    refine WL.so (SO.makes (Enters.func Try.call31 rfl) (fun w hI => sample_g [] none 0 0 _ w ⟨rfl, fun i r hr => by simp at hr⟩ (fun _ => rfl) (by decide) hI.imm)) rfl ?_
    rintro _ D21 _ ⟨hX21, ⟨a1_21, c1_21, a2_21, c2_21, rfl, hR21⟩, rfl⟩
    refine WL.so (SO.callP Try.call17 rfl (fun w hI => Gives.cv (.tuple #[it 0, it 0]) (Before_g (sampP []) a1_21 _ c1_21 a2_21 _ c2_21 _ w hR21 hI.imm (-1) 0) (by rw [an1]))) rfl ?_
    rintro _ _ _ ⟨rfl, rfl, rfl⟩
    refine WL.yd (Yd.move rfl) rfl ?_
    refine WL.yd (Yd.extract rfl rfl) rfl ?_
    refine WL.yd (Yd.extract rfl rfl) rfl ?_
    refine WL.yd (Yd.assign rfl) rfl ?_
    refine WL.yd (Yd.assign rfl) rfl ?_
    refine WL.nil ?_
    refine WP.thenC ?_
    refine WC.seq ?_
    refine WC.ofFr [(6, _), (5, _)] ⟨rfl, rfl, trivial⟩ ?_
    refine WC.region ?_
    refine WL.so (SO.makes (Enters.func Try.call31 rfl) (fun w hI => sample_g [] none 0 0 _ w ⟨rfl, fun i r hr => by simp at hr⟩ (fun _ => rfl) (by decide) hI.imm)) rfl ?_
    rintro _ D22 _ ⟨hX22, ⟨a1_22, c1_22, a2_22, c2_22, rfl, hR22⟩, rfl⟩
    refine WL.so (SO.callP Try.call19 rfl (fun w hI => Gives.cv (.tuple #[.agg #[it 1, it 3], it 0]) (Near_g (sampP []) a1_22 _ c1_22 a2_22 _ c2_22 _ w hR22 hI.imm 1 2) (by rw [an2]))) rfl ?_
    rintro _ _ _ ⟨rfl, rfl, rfl⟩
    refine WL.yd (Yd.move rfl) rfl ?_
    refine WL.yd (Yd.extract rfl rfl) rfl ?_
    refine WL.yd (Yd.extract rfl rfl) rfl ?_
    refine WL.so (SO.alloc Try.zeroValue23 rfl) rfl ?_
    rintro _ _ _ ⟨b7, hb7, rfl, rfl, rfl⟩ -- NEW
    refine WL.so (SO.store 0 rfl Try.sizeOf23 rfl rfl rfl rfl (Nat.le_of_ble_eq_true rfl) (oneB_spec rfl)) rfl ?_
    rintro _ _ _ ⟨rfl, rfl, rfl⟩
    refine WL.yd (Yd.assign rfl) rfl ?_
    refine WL.nil ?_
    refine WP.thenC ?_
    refine WC.seq ?_
    refine WC.ofFr [(8, _), (7, _), (6, _), (5, _)] ⟨rfl, rfl, rfl, rfl, trivial⟩ ?_
    refine WC.region ?_
    refine WL.so (SO.makes (Enters.func Try.call31 rfl) (fun w hI => sample_g [] none 0 0 _ w ⟨rfl, fun i r hr => by simp at hr⟩ (fun _ => rfl) (by decide) hI.imm)) rfl ?_
    rintro _ D23 _ ⟨hX23, ⟨a1_23, c1_23, a2_23, c2_23, rfl, hR23⟩, rfl⟩
    refine WL.so (SO.callP Try.call27 rfl (fun w hI => Gives.cv (.tuple #[it 0, it 0, it 0]) (False_g (sampP []) a1_23 _ c1_23 a2_23 _ c2_23 _ w hR23 hI.imm) (by rw [an3]))) rfl ?_
    rintro _ _ _ ⟨rfl, rfl, rfl⟩
    refine WL.yd (Yd.move rfl) rfl ?_
    refine WL.yd (Yd.extract rfl rfl) rfl ?_
    refine WL.yd (Yd.extract rfl rfl) rfl ?_
    refine WL.yd (Yd.extract rfl rfl) rfl ?_
    refine WL.yd (Yd.assign rfl) rfl ?_
    refine WL.yd (Yd.assign rfl) rfl ?_
    refine WL.yd (Yd.assign rfl) rfl ?_
    refine WL.nil ?_
    refine WP.thenC ?_
    refine WC.seq ?_
    refine WC.ofFr [(11, _), (10, _), (9, _), (8, _), (7, _), (6, _), (5, _)] ⟨rfl, rfl, rfl, rfl, rfl, rfl, rfl, trivial⟩ ?_
    refine WC.region ?_
    refine WL.so (SO.makes (Enters.func Try.call31 rfl) (fun w hI => sample_g [] none 0 0 _ w ⟨rfl, fun i r hr => by simp at hr⟩ (fun _ => rfl) (by decide) hI.imm)) rfl ?_
    rintro _ D24 _ ⟨hX24, ⟨a1_24, c1_24, a2_24, c2_24, rfl, hR24⟩, rfl⟩
    refine WL.so (SO.callP Try.call29 rfl (fun w hI => Clash_g (sampP []) a1_24 _ c1_24 a2_24 _ c2_24 _ w hR24 hI.imm)) rfl ?_
    rintro _ _ _ ⟨rfl, rfl, rfl⟩
    refine WL.yd (Yd.move rfl) rfl ?_
    refine WL.yd (Yd.extract rfl rfl) rfl ?_
    refine WL.yd (Yd.extract rfl rfl) rfl ?_
    refine WL.yd (Yd.assign rfl) rfl ?_
    refine WL.yd (Yd.assign rfl) rfl ?_
    refine WL.nil ?_
    refine WP.thenC ?_
    refine WC.seq ?_
    refine WC.ofFr [(13, _), (11, _), (10, _), (9, _), (8, _), (7, _), (6, _), (5, _)] ⟨rfl, rfl, rfl, rfl, rfl, rfl, rfl, rfl, trivial⟩ ?_
    refine WC.region ?_
    refine WL.so (SO.callP Try.call33 rfl (fun w hI => lbef_g _ _ _)) rfl ?_
    rintro _ _ _ ⟨rfl, rfl, rfl⟩
    refine WL.so (SO.buildSlice Try.underlying25 Try.sizeOf47 Try.zeroValue47 rfl rfl rfl rfl (cs := [_, _, _]) rfl) rfl ?_
    rintro _ _ _ ⟨b67, hb67, rfl, rfl, rfl⟩ -- NEW
    refine WL.freezeK 0 rfl (fun hn67 => ?_)
    have hF67 := fun o => (DExt.refl w D24).add (o := o) hn67 hb67
    refine WL.so (SO.makes (Enters.func Try.call31 rfl) (fun w hI => sample_g [(⟨2, 1, false⟩ : PClaim)] (some ⟨b67, 0, none⟩) 1 _ _ w (one_sl (⟨2, 1, false⟩ : PClaim) (Imm.add_self _ _ _)) (fun h => by cases h) (by decide) hI.imm)) rfl ?_
    rintro _ D25 _ ⟨hX25, ⟨a1_25, c1_25, a2_25, c2_25, rfl, hR25⟩, rfl⟩
    refine WL.so (SO.callP Try.call23 rfl (fun w hI => Kept_g (sampP [(⟨2, 1, false⟩ : PClaim)]) a1_25 _ c1_25 a2_25 _ c2_25 _ w hR25 hI.imm)) rfl ?_
    rintro _ _ _ ⟨rfl, rfl, rfl⟩
    refine WL.yd (Yd.move rfl) rfl ?_
    refine WL.yd (Yd.extract rfl rfl) rfl ?_
    refine WL.yd (Yd.extract rfl rfl) rfl ?_
    refine WL.yd (Yd.assign rfl) rfl ?_
    refine WL.yd (Yd.assign rfl) rfl ?_
    refine WL.nil ?_
    refine WP.thenC ?_
    refine WC.seq ?_
    refine WC.ofFr [(15, _), (13, _), (11, _), (10, _), (9, _), (8, _), (7, _), (6, _), (5, _)] ⟨rfl, rfl, rfl, rfl, rfl, rfl, rfl, rfl, rfl, trivial⟩ ?_
    refine WC.tail 14 [0, 1, 2, 3, 4, 5, 6, 7, 8, 9, 10, 11, 12, 13] rfl (by kernel_rfl) (by kernel_rfl)  ?_
    refine WQ.q rfl (Yd.qt (Yd.move rfl)) rfl ?_
    refine WQ.qg rfl rfl (Qt.callP Try.call14 rfl (fun w hI => alive_g _ _ hI.imm)) rfl ?_
    refine WQ.know 73 (.bool true) rfl rfl ?_
    refine WQ.q rfl (Yd.qt (Yd.pickT rfl rfl)) rfl ?_
    refine WQ.q rfl (Yd.qt (Yd.move rfl)) rfl ?_
    refine WQ.qg rfl rfl (Yd.qt (Yd.move rfl)) rfl ?_
    refine WQ.qg rfl rfl (Yd.qt (Yd.eql rfl rfl)) rfl ?_
    refine WQ.know 77 (.bool true) rfl (congrArg Value.bool (by decide)) ?_
    refine WQ.q rfl (Yd.qt (Yd.pickT rfl rfl)) rfl ?_
    refine WQ.q rfl (Yd.qt (Yd.move rfl)) rfl ?_
    refine WQ.qg rfl rfl (Yd.qt (Yd.move rfl)) rfl ?_
    refine WQ.qg rfl rfl (Yd.qt (Yd.eql rfl rfl)) rfl ?_
    refine WQ.know 81 (.bool true) rfl (congrArg Value.bool (by decide)) ?_
    refine WQ.q rfl (Yd.qt (Yd.pickT rfl rfl)) rfl ?_
    refine WQ.q rfl (Yd.qt (Yd.move rfl)) rfl ?_
    refine WQ.qg rfl rfl (Yd.qt (Yd.loadN Try.isAgg23 Try.sizeOf23 rfl (vs := [_, _]) rfl (by first | exact RdN.own (k := 0) (n := 2) rfl rfl | exact (hS.at k (by omega)).rdn 0 3 rfl))) rfl ?_
    refine WQ.qg rfl rfl (Qt.callP Try.call32 rfl (fun w hI => lspan_g _ _ _)) rfl ?_
    refine WQ.tail ?_
    refine WL.ydg rfl (Yd.eqS Try.eqGuardType23 (eq23 _ _ _ _) rfl rfl) rfl ?_
    refine WL.know 86 (.bool true) rfl (congrArg Value.bool (decide_eq_true rfl)) ?_
    refine WL.yd (Yd.pickT rfl rfl) rfl ?_
    refine WL.yd (Yd.move rfl) rfl ?_
    refine WL.ydg rfl (Yd.move rfl) rfl ?_
    refine WL.ydg rfl (Yd.eql rfl rfl) rfl ?_
    refine WL.know 90 (.bool true) rfl (congrArg Value.bool (by decide)) ?_
    refine WL.yd (Yd.pickT rfl rfl) rfl ?_
    refine WL.yd (Yd.move rfl) rfl ?_
    refine WL.ydg rfl (Yd.move rfl) rfl ?_
    refine WL.ydg rfl (Yd.eql rfl rfl) rfl ?_
    refine WL.know 94 (.bool true) rfl (congrArg Value.bool (by decide)) ?_
    refine WL.yd (Yd.pickT rfl rfl) rfl ?_
    refine WL.yd (Yd.move rfl) rfl ?_
    refine WL.ydg rfl (Yd.move rfl) rfl ?_
    refine WL.ydg rfl (Yd.eql rfl rfl) rfl ?_
    refine WL.know 98 (.bool true) rfl (congrArg Value.bool (by decide)) ?_
    refine WL.yd (Yd.pickT rfl rfl) rfl ?_
    refine WL.yd (Yd.move rfl) rfl ?_
    refine WL.ydg rfl (Yd.move rfl) rfl ?_
    refine WL.ydg rfl (Yd.eql rfl rfl) rfl ?_
    refine WL.know 102 (.bool true) rfl (congrArg Value.bool (by decide)) ?_
    refine WL.yd (Yd.pickT rfl rfl) rfl ?_
    refine WL.yd (Yd.move rfl) rfl ?_
    refine WL.ydg rfl (Yd.move rfl) rfl ?_
    refine WL.ydg rfl (Yd.eql rfl rfl) rfl ?_
    refine WL.know 106 (.bool true) rfl (congrArg Value.bool (by rw [an4]; decide)) ?_
    refine WL.yd (Yd.pickT rfl rfl) rfl ?_
    refine WL.yd (Yd.move rfl) rfl ?_
    refine WL.ydg rfl (Yd.move rfl) rfl ?_
    refine WL.ydg rfl (Yd.eql rfl rfl) rfl ?_
    refine WL.know 110 (.bool true) rfl (congrArg Value.bool (by rw [an5]; decide)) ?_
    refine WL.yd (Yd.pickT rfl rfl) rfl ?_
    refine WL.yd (Yd.assign rfl) rfl ?_
    refine WL.nil ?_
    refine WP.thenC ?_
    refine WC.ret ?_
    refine WP.ret1 rfl rfl Try.results5 (RV.tmp rfl) (fun w hI => ⟨rfl, hI.keep⟩)

end Go.Proofs.Ytkhmmefgllbobaa
namespace Go.Proofs.Ytkhmmefgllbobaa
open Go.W Go.Po

theorem inv_swap {D : Imm} {e1 e2 : Nat × Obj} {S : List Nat} {w0 w : World} (h : W.Inv D [e1, e2] S w0 w) : W.Inv D [e2, e1] S w0 w :=
  h.sub (fun e he => by simp only [List.mem_cons, List.mem_nil_iff, or_false] at he ⊢; exact he.symm) (by have := h.nodup; simp at this ⊢; exact fun e => this e.symm)
def u16C (x : Int) : List Value := [.int .u16 x]
theorem u16C_len (x : Int) : (u16C x).length = 1 := rfl
theorem owH_app (o : Option Ow) (e : TypeId) (xs : List Value) (hp : Hp) : owH o e xs [] ++ hp = owH o e xs hp := by cases o <;> rfl
def cntO (j : Nat) : Obj := .cells (List.toArray [nt j]) 3 (0, 0)
def fvV (b3 b1 : Nat) : Value := .func (.func 87) #[] (List.toArray [pt b3, pt b1])
/-- what the draws lean on -/
structure ByR (D : Imm) (by_ : List Int) (b1 : Nat) : Prop where
  blk : ∃ a c, D b1 = some (.cells (List.toArray [.slice a by_.length c]) 49 (0, 0)) ∧ SlL D 1 (by_.map u16C) a by_.length
  num : ∀ i, i < by_.length → 0 ≤ gt by_ i ∧ gt by_ i ≤ 65535
theorem ByR.ext {w : World} {D D' : Imm} {by_ : List Int} {b1 : Nat} (h : ByR D by_ b1) (hX : DExt w D D') : ByR D' by_ b1 := by
  obtain ⟨⟨a, c, h1, h2⟩, h3⟩ := h
  exact ⟨⟨a, c, hX.old _ _ h1, h2.ext hX⟩, h3⟩

set_option maxRecDepth 100000 in
set_option maxHeartbeats 1000000 in
theorem draws_g (by_ : List Int) (a : Option Addr) (n c : Nat) (D : Imm) (w : World) (hS : SlL D 1 (by_.map u16C) a n) (hn : ∀ i, i < by_.length → 0 ≤ gt by_ i ∧ gt by_ i ≤ 65535) (hH : Holds D w) : News Try.prog 34 [.slice a n c] w D (fun v D' hpc' => ∃ b3 b1, v = fvV b3 b1 ∧ ByR D' by_ b1 ∧ hpc' = [(b3, cntO 0)]) := by
  unfold News
  obtain rfl : n = by_.length := by have := hS.len; simpa using this
  refine enter Try.func34 rfl 5 Try.ntmps34 (Nat.le_of_ble_eq_true rfl) (Inv.start hH) ?_
  refine WC.seq ?_
  refine WC.ofFr [(0, _)] ⟨rfl, trivial⟩ ?_
  refine WC.region ?_
  refine WL.so (SO.box rfl rfl) rfl ?_
  rintro _ _ _ ⟨b1, hb1, rfl, rfl, rfl⟩ -- NEW
  refine WL.yd (Yd.assign rfl) rfl ?_
  refine WL.nil ?_
  refine WP.thenC ?_
  refine WC.seq ?_
  refine WC.ofFr [(2, _), (1, _)] ⟨rfl, rfl, trivial⟩ ?_
  refine WC.region ?_
  refine WL.so (SO.alloc Try.zeroValue3 rfl) rfl ?_
  rintro _ _ _ ⟨b3, hb3, rfl, rfl, rfl⟩ -- NEW
  refine WL.so (SO.store 0 rfl Try.sizeOf3 rfl rfl rfl rfl (Nat.le_of_ble_eq_true rfl) (oneB_spec rfl)) rfl ?_
  rintro _ _ _ ⟨rfl, rfl, rfl⟩
  refine WL.nil ?_
  refine WP.thenC ?_
  refine WC.seq ?_
  refine WC.ofFr [(3, _), (2, _), (1, _)] ⟨rfl, rfl, rfl, trivial⟩ ?_
  refine WC.region ?_
  refine WL.yd (Yd.func rfl rfl) rfl ?_
  refine WL.yd (Yd.assign rfl) rfl ?_
  refine WL.nil ?_
  refine WP.thenC ?_
  refine WC.ret ?_
  refine WP.ret1 rfl rfl Try.results34 (RV.tmp rfl) (fun w1 hI => ?_)
  have hI2 : W.Inv D [(b1, .cells (List.toArray [.slice a by_.length c]) 49 (0, 0)), (b3, cntO 0)] [] w w1 := inv_swap (by exact hI)
  have hn1 := hI2.apart _ _ (List.mem_of_getElem? (i := 0) rfl)
  have hX1 := fun o => (DExt.refl w D).add (o := o) hn1 hb1
  exact ⟨_, _, _, rfl, hX1 _, hI2.freeze, b3, b1, rfl, ⟨⟨a, c, Imm.add_self _ _ _, hS.ext (hX1 _)⟩, hn⟩, rfl⟩

set_option maxRecDepth 100000 in
set_option maxHeartbeats 1000000 in
theorem draw_g (by_ : List Int) (b3 b1 : Nat) (D : Imm) (w : World) (hB : ByR D by_ b1) (m : Int) (hm : 1 ≤ m ∧ m ≤ 1000) (j : Nat) (hj : j ≤ 10000) (hI0 : Inv D [(b3, cntO j)] [b3] w w) : Alters Try.prog 87 [it m, pt b3, pt b1] w D [b3] (fun v D' hpc' => v = it (drawV by_ (j + 1) m) ∧ D = D' ∧ hpc' = [(b3, cntO (j + 1))]) := by
  unfold Alters
  obtain ⟨⟨a, c, hbD, hS⟩, hn⟩ := hB
  refine enter Try.func87 rfl 26 Try.ntmps87 (Nat.le_of_ble_eq_true rfl) hI0 ?_
  refine WC.seq ?_
  refine WC.ofFr [(0, _), (1, _), (2, _)] ⟨rfl, rfl, rfl, trivial⟩ ?_
  refine WC.region ?_
  refine WL.yd (Yd.assign rfl) rfl ?_
  refine WL.nil ?_
  refine WP.thenC ?_
  refine WC.seq ?_
  refine WC.ofFr [(4, _), (0, _), (1, _), (2, _)] ⟨rfl, rfl, rfl, rfl, trivial⟩ ?_
  refine WC.region ?_
  refine WL.yd (Yd.load1 Try.isAgg3 rfl (by first | exact Rd.own (k := 0) rfl rfl | exact (Rd.imm hbD rfl) | exact ((hS.at ((j + 1) % by_.length) hlt).rd 0 rfl))) rfl ?_
  refine WL.yd (Yd.addN rfl rfl (by (try dsimp only); omega)) rfl ?_
  refine WL.so (SO.store 0 rfl Try.sizeOf3 rfl rfl rfl rfl (Nat.le_of_ble_eq_true rfl) (oneB_spec rfl)) rfl ?_
  rintro _ _ _ ⟨rfl, rfl, rfl⟩
  refine WL.nil ?_
  refine WP.thenC ?_
  refine WC.seq ?_
  refine WC.seq ?_
  refine WC.ofFr [(4, _), (0, _), (1, _), (2, _)] ⟨rfl, rfl, rfl, rfl, trivial⟩ ?_
  refine WC.region ?_
  refine WL.yd (Yd.load1 Try.isAgg49 rfl (by first | exact Rd.own (k := 0) rfl rfl | exact (Rd.imm hbD rfl) | exact ((hS.at ((j + 1) % by_.length) hlt).rd 0 rfl))) rfl ?_
  refine WL.yd (Yd.lenS rfl Try.underlying49 rfl) rfl ?_
  refine WL.yd (Yd.eql rfl rfl) rfl ?_
  refine WL.nil ?_
  refine WP.thenC ?_
  refine WC.cond rfl (fun c9 => ?_) (fun c9 => ?_)
  · try simp only [zq1, zq2, zq3, zq4, zq5, zq6, zq7, zq8] at c9
    have hl0 : by_.length = 0 := by omega
    refine WC.seq ?_
    refine WC.ofFr [(4, _), (0, _), (1, _), (2, _)] ⟨rfl, rfl, rfl, rfl, trivial⟩ ?_
    refine WC.region ?_
    refine WL.yd (Yd.load1 Try.isAgg3 rfl (by first | exact Rd.own (k := 0) rfl rfl | exact (Rd.imm hbD rfl) | exact ((hS.at ((j + 1) % by_.length) hlt).rd 0 rfl))) rfl ?_
    refine WL.yd (Yd.move rfl) rfl ?_
    refine WL.yd (Yd.rem rfl rfl (by (try dsimp only); omega) (by (try dsimp only); omega)) rfl ?_
    refine WL.yd (Yd.assign rfl) rfl ?_
    refine WL.nil ?_
    refine WP.thenC ?_
    refine WC.ret ?_
    refine WP.thenRet ?_
    refine WP.ret1 rfl rfl Try.results87 (RV.tmp rfl) (fun w1 hI => ⟨_, _, _, rfl, DExt.refl _ _, hI, fun _ h => h, by rw [drawV, if_pos hl0], rfl, rfl⟩)
  · try simp only [zq1, zq2, zq3, zq4, zq5, zq6, zq7, zq8] at c9
    have hl0 : ¬ by_.length = 0 := by omega
    have hlt : (j + 1) % by_.length < by_.length := Nat.mod_lt _ (by omega)
    have hgn := hn _ hlt
    have hie : ((j + 1 : Nat) : Int) % (by_.length : Int) = (((j + 1) % by_.length : Nat) : Int) := rfl
    refine WC.skip ?_
    refine WP.thenC ?_
    refine WC.seq ?_
    refine WC.ofFr [(4, _), (0, _), (1, _), (2, _)] ⟨rfl, rfl, rfl, rfl, trivial⟩ ?_
    refine WC.tail 12 [0, 1, 2, 3, 4, 5, 6, 7, 8, 9, 10, 11] rfl (by kernel_rfl) (by kernel_rfl)  ?_
    refine WQ.q rfl (Yd.qt (Yd.load1 Try.isAgg49 rfl (by first | exact Rd.own (k := 0) rfl rfl | exact (Rd.imm hbD rfl) | exact ((hS.at ((j + 1) % by_.length) hlt).rd 0 rfl)))) rfl ?_
    refine WQ.q rfl (Yd.qt (Yd.load1 Try.isAgg3 rfl (by first | exact Rd.own (k := 0) rfl rfl | exact (Rd.imm hbD rfl) | exact ((hS.at ((j + 1) % by_.length) hlt).rd 0 rfl)))) rfl ?_
    refine WQ.q rfl (Yd.qt (Yd.load1 Try.isAgg49 rfl (by first | exact Rd.own (k := 0) rfl rfl | exact (Rd.imm hbD rfl) | exact ((hS.at ((j + 1) % by_.length) hlt).rd 0 rfl)))) rfl ?_
    refine WQ.q rfl (Yd.qt (Yd.lenS rfl Try.underlying49 rfl)) rfl ?_
    refine WQ.q rfl (Yd.qt (Yd.rem rfl rfl (by (try dsimp only); omega) (by (try dsimp only); omega))) rfl ?_
    refine WQ.q rfl (Yd.qt (Yd.indexS Try.underlying49 Try.sizeOf120 rfl rfl (by rw [hie]; omega) (by rw [hie]; omega) (hS.addr ((j + 1) % by_.length) hlt))) rfl ?_
    refine WQ.q rfl (Yd.qt (Yd.load1 Try.isAgg120 rfl (by first | exact Rd.own (k := 0) rfl rfl | exact (Rd.imm hbD rfl) | exact ((hS.at ((j + 1) % by_.length) hlt).rd 0 rfl)))) rfl ?_
    refine WQ.q rfl (Yd.qt (Yd.conv Try.underlying120 Try.underlying3 rfl (wr64 ⟨by omega, by omega⟩))) rfl ?_
    refine WQ.q rfl (Yd.qt (Yd.load1 Try.isAgg3 rfl (by first | exact Rd.own (k := 0) rfl rfl | exact (Rd.imm hbD rfl) | exact ((hS.at ((j + 1) % by_.length) hlt).rd 0 rfl)))) rfl ?_
    refine WQ.q rfl (Yd.qt (Yd.mul rfl rfl (wr64 ⟨by (try dsimp only); omega, by (try dsimp only); omega⟩))) rfl ?_
    refine WQ.q rfl (Yd.qt (Yd.add rfl rfl (wr64 ⟨by (try dsimp only); omega, by (try dsimp only); omega⟩))) rfl ?_
    refine WQ.q rfl (Yd.qt (Yd.move rfl)) rfl ?_
    refine WQ.tail ?_
    refine WL.yd (Yd.rem rfl rfl (by (try dsimp only); omega) (by (try dsimp only); omega)) rfl ?_
    refine WL.yd (Yd.assign rfl) rfl ?_
    refine WL.nil ?_
    refine WP.thenC ?_
    refine WC.ret ?_
    refine WP.ret1 rfl rfl Try.results87 (RV.tmp rfl) (fun w1 hI => ⟨_, _, _, rfl, DExt.refl _ _, hI, fun _ h => h, by rw [drawV, if_neg hl0], rfl, rfl⟩)

end Go.Proofs.Ytkhmmefgllbobaa
namespace Go.Proofs.Ytkhmmefgllbobaa
open Go.W Go.Po

def popK (s : Nat) : Nat → Nat
  | 0 => 0
  | k + 1 => popK s k + s / 2 ^ k % 2
theorem popK_pop : ∀ s, s < 256 → ∀ k, k < 9 → s / 2 ^ k = 0 → popK s k = pop s := of_decide_eq_true (by kernel_rfl)
theorem popK_le (s : Nat) : ∀ k, popK s k ≤ k := by
  intro k
  induction k with
  | zero => exact Nat.le_refl _
  | succ k ih => simp only [popK]; omega
theorem half_pow (s k : Nat) : s / 2 ^ (k + 1) = s / 2 ^ k / 2 := by rw [Nat.pow_succ, Nat.div_div_eq_div_mul]

set_option maxRecDepth 100000 in
set_option maxHeartbeats 1000000 in
theorem size_g (s : Nat) (hs : s < 256) (w : World) : Gives Try.prog 36 [nt s] w (nt (pop s)) := by
  unfold Gives
  refine enter Try.func36 rfl 13 Try.ntmps36 (Nat.le_of_ble_eq_true rfl) (Inv.start (D := fun _ => none) (by intro _ _ h; cases h)) ?_
  refine WC.seq ?_
  refine WC.ofFr [(0, _)] ⟨rfl, trivial⟩ ?_
  refine WC.region ?_
  refine WL.yd (Yd.assign rfl) rfl ?_
  refine WL.nil ?_
  refine WP.thenC ?_
  refine WC.seq ?_
  refine WC.ofFr [(2, _), (0, _)] ⟨rfl, rfl, trivial⟩ ?_
  refine WC.region ?_
  refine WL.yd (Yd.assign rfl) rfl ?_
  refine WL.nil ?_
  refine WP.thenC ?_
  refine WC.seq ?_
  refine WC.block ?_
  refine WC.loopF (fun k : Nat => [(0, nt (s / 2 ^ k)), (3, nt (popK s k))]) (fun k => k ≤ 8) (fun k => s / 2 ^ k) 0 (by omega) (by exact ⟨by rw [Nat.pow_zero, Nat.div_one]; rfl, rfl, trivial⟩) ?_
  intro k hk
  have hpk := popK_le s k
  have hlt : s / 2 ^ k ≤ s := Nat.div_le_self _ _
  have hge := Int.natCast_nonneg (s / 2 ^ k)
  refine WC.seq ?_
  refine WC.seq ?_
  refine WC.ofFr [(0, _), (3, _)] ⟨rfl, rfl, trivial⟩ ?_
  refine WC.region ?_
  refine WL.yd (Yd.move rfl) rfl ?_
  refine WL.yd (Yd.gtr rfl rfl) rfl ?_
  refine WL.nil ?_
  refine WP.thenC ?_
  refine WC.cond rfl (fun c5 => ?_) (fun c5 => ?_)
  · try simp only [zq1, zq2, zq3, zq4, zq5, zq6, zq7, zq8] at c5
    refine WC.skip ?_
    refine WP.thenC ?_
    refine WC.block ?_
    refine WC.seq ?_
    refine WC.ofFr [(0, _), (3, _)] ⟨rfl, rfl, trivial⟩ ?_
    refine WC.region ?_
    refine WL.yd (Yd.move rfl) rfl ?_
    refine WL.yd (Yd.move rfl) rfl ?_
    refine WL.yd (Yd.rem rfl rfl (by omega) (by omega)) rfl ?_
    refine WL.yd (Yd.add rfl rfl (wr64 ⟨by omega, by omega⟩)) rfl ?_
    refine WL.yd (Yd.assign rfl) rfl ?_
    refine WL.nil ?_
    refine WP.thenC ?_
    refine WC.ofFr [(3, _), (0, _)] ⟨rfl, rfl, trivial⟩ ?_
    refine WC.region ?_
    refine WL.yd (Yd.move rfl) rfl ?_
    refine WL.yd (Yd.quo rfl rfl (by omega) (by omega) (wr64 ⟨by omega, by omega⟩)) rfl ?_
    refine WL.yd (Yd.assign rfl) rfl ?_
    refine WL.nil ?_
    refine WP.blkNormal ?_
    have h31 : k ≠ 8 := fun e => by
      subst e
      have : s / 2 ^ 8 = 0 := Nat.div_eq_of_lt hs
      rw [this] at c5; simp at c5
    have hhp := half_pow s k
    exact WP.againF (k + 1) (by omega) (by omega) ⟨by rw [hhp]; rfl, rfl, trivial⟩ (fun _ h => h) (fun h => h)
  · try simp only [zq1, zq2, zq3, zq4, zq5, zq6, zq7, zq8] at c5
    have hz : s / 2 ^ k = 0 := by omega
    refine WC.exit ?_
    refine WP.thenExit ?_
    refine WP.thenExit ?_
    refine WP.blkHit ?_
    refine WP.thenC ?_
    refine WC.seq ?_
    refine WC.ofFr [(3, _)] ⟨rfl, trivial⟩ ?_
    refine WC.region ?_
    refine WL.yd (Yd.move rfl) rfl ?_
    refine WL.yd (Yd.assign rfl) rfl ?_
    refine WL.nil ?_
    refine WP.thenC ?_
    refine WC.ret ?_
    refine WP.ret1 rfl rfl Try.results36 (RV.tmp rfl) (fun w hI => ⟨by rw [popK_pop s hs k (by omega) hz], hI.keep⟩)

set_option maxRecDepth 100000 in
set_option maxHeartbeats 1000000 in
theorem inside_g (v lo hi : Int) (w : World) : Gives Try.prog 37 [it v, .agg #[it lo, it hi]] w (.bool (decide (lo ≤ v) && decide (v ≤ hi))) := by
  unfold Gives
  refine enter Try.func37 rfl 15 Try.ntmps37 (Nat.le_of_ble_eq_true rfl) (Inv.start (D := fun _ => none) (by intro _ _ h; cases h)) ?_
  refine WC.seq ?_
  refine WC.ofFr [(0, _), (1, _)] ⟨rfl, rfl, trivial⟩ ?_
  refine WC.region ?_
  refine WL.so (SO.box rfl rfl) rfl ?_
  rintro _ _ _ ⟨b3, hb3, rfl, rfl, rfl⟩ -- NEW
  refine WL.yd (Yd.assign rfl) rfl ?_
  refine WL.nil ?_
  refine WP.thenC ?_
  refine WC.seq ?_
  refine WC.ofFr [(4, _), (3, _), (0, _)] ⟨rfl, rfl, rfl, trivial⟩ ?_
  refine WC.region ?_
  refine WL.yd (Yd.fieldAddr FA23_0 rfl) rfl ?_
  refine WL.yd (Yd.load1 Try.isAgg3 rfl (by first | exact Rd.own (k := 0) rfl rfl)) rfl ?_
  refine WL.yd (Yd.move rfl) rfl ?_
  refine WL.yd (Yd.leq rfl rfl) rfl ?_
  refine WL.yd (Yd.move rfl) rfl ?_
  refine WL.part 9 rfl (fun g9 => ?_) (fun g9 => ?_)
  · try simp only [zq1, zq2, zq3, zq4, zq5, zq6, zq7, zq8] at g9
    refine WL.ydg rfl (Yd.move rfl) rfl ?_
    refine WL.ydg rfl (Yd.fieldAddr FA23_1 rfl) rfl ?_
    refine WL.ydg rfl (Yd.load1 Try.isAgg3 rfl (by first | exact Rd.own (k := 0) rfl rfl)) rfl ?_
    refine WL.ydg rfl (Yd.leq rfl rfl) rfl ?_
    refine WL.yd (Yd.pickT rfl rfl) rfl ?_
    refine WL.yd (Yd.assign rfl) rfl ?_
    refine WL.nil ?_
    refine WP.thenC ?_
    refine WC.ret ?_
    refine WP.ret1 rfl rfl Try.results37 (RV.tmp rfl) (fun w hI => ⟨ret_bool (by simp_all <;> omega), hI.keep⟩)
  · try simp only [zq1, zq2, zq3, zq4, zq5, zq6, zq7, zq8] at g9
    refine WL.skip rfl rfl ?_
    refine WL.skip rfl rfl ?_
    refine WL.skip rfl rfl ?_
    refine WL.skip rfl rfl ?_
    refine WL.yd (Yd.pickF rfl rfl) rfl ?_
    refine WL.yd (Yd.assign rfl) rfl ?_
    refine WL.nil ?_
    refine WP.thenC ?_
    refine WC.ret ?_
    refine WP.ret1 rfl rfl Try.results37 (RV.tmp rfl) (fun w hI => ⟨ret_bool (by simp_all <;> omega), hI.keep⟩)

end Go.Proofs.Ytkhmmefgllbobaa
namespace Go.Proofs.Ytkhmmefgllbobaa
open Go.W Go.Po

set_option maxRecDepth 100000 in
set_option maxHeartbeats 1000000 in
theorem about_g (v : Int) (hv : 0 ≤ v ∧ v ≤ 40) (by_ : List Int) (bc b1 bf : Nat) (D : Imm) (w : World) (hB : ByR D by_ b1) (hf : D bf = some (.cells (List.toArray [fvV bc b1]) 50 (0, 0))) (j : Nat) (hj : j ≤ 1000) (hI0 : Inv D [(bc, cntO j)] [bc] w w) : AltersN Try.prog 88 [it v, pt bf] w D [bc] (fun r D' hpc' => r = .agg #[it (about by_ v j).lo, it (about by_ v j).hi] ∧ D = D' ∧ hpc' = [(bc, cntO (j + 2))]) := by
  unfold AltersN
  have hd1 := drawV_num by_ (j + 1) (n := 6) (by omega)
  have hd2 := drawV_num by_ (j + 1 + 1) (n := 6) (by omega)
  refine enter Try.func88 rfl 15 Try.ntmps88 (Nat.le_of_ble_eq_true rfl) hI0 ?_
  refine WC.seq ?_
  refine WC.ofFr [(0, _), (1, _)] ⟨rfl, rfl, trivial⟩ ?_
  refine WC.region ?_
  refine WL.so (SO.alloc Try.zeroValue23 rfl) rfl ?_
  rintro _ _ _ ⟨b3, hb3, rfl, rfl, rfl⟩ -- NEW
  refine WL.nil ?_
  refine WP.thenC ?_
  refine WC.seq ?_
  refine WC.ofFr [(3, _), (0, _), (1, _)] ⟨rfl, rfl, rfl, trivial⟩ ?_
  refine WC.drawO [] [(0, true), (1, true), (5, true), (6, true), (2, false), (3, true), (4, true), (7, false), (8, true), (9, true), (10, false), (11, false)] (by kernel_rfl) (by kernel_rfl) (QuietPanic.then QuietPanic.body) (fun w hI => Inv.nil hI) ?_
  refine WA.yd rfl (Yd.move rfl) rfl ?_
  refine WA.yd rfl (Yd.load1 Try.isAgg50 rfl (by first | exact Rd.own (k := 0) rfl rfl | exact Rd.own (k := 1) rfl rfl | exact (Rd.imm hf rfl))) rfl ?_
  refine WA.yd rfl (Yd.move rfl) rfl ?_
  refine WA.yd rfl (Yd.load1 Try.isAgg50 rfl (by first | exact Rd.own (k := 0) rfl rfl | exact Rd.own (k := 1) rfl rfl | exact (Rd.imm hf rfl))) rfl ?_
  refine WA.so rfl (SO.alters (own := [_]) (hpc := [(bc, cntO j)]) (S1 := [bc]) (fun _ h => h) (fun h => h) (fun _ h => h) (fun _ h => h) (Enters.val Try.call87 rfl rfl) (fun w1 hI => draw_g by_ bc b1 _ w1 hB 6 (by omega) j (by omega) hI)) rfl ?_
  rintro _ _ _ ⟨_, _, ⟨rfl, rfl, rfl⟩, rfl⟩
  refine ⟨fun _ hI => Inv.nil hI, ?_⟩
  refine WA.yd rfl (Yd.sub rfl rfl (wr64 ⟨by omega, by omega⟩)) rfl ?_
  refine WA.yd rfl (Yd.max2 rfl rfl) rfl ?_
  refine WA.so rfl (SO.alters (own := [_]) (hpc := [(bc, cntO (j + 1))]) (S1 := [bc]) (fun _ h => h) (fun h => h) (fun _ h => h) (fun _ h => h) (Enters.val Try.call87 rfl rfl) (fun w1 hI => draw_g by_ bc b1 _ w1 hB 6 (by omega) (j + 1) (by omega) hI)) rfl ?_
  rintro _ _ _ ⟨_, _, ⟨rfl, rfl, rfl⟩, rfl⟩
  refine ⟨fun _ hI => Inv.nil hI, ?_⟩
  refine WA.yd rfl (Yd.add rfl rfl (wr64 ⟨by omega, by omega⟩)) rfl ?_
  refine WA.yd rfl (Yd.min2 rfl rfl) rfl ?_
  refine WA.so rfl (SO.callP Try.call32 rfl (fun w hI => lspan_g _ _ _)) rfl ?_
  rintro _ _ _ ⟨rfl, rfl, rfl⟩
  refine ⟨fun _ hI => Inv.nil hI, ?_⟩
  refine WA.so rfl (SO.store 0 rfl Try.sizeOf23 rfl rfl rfl rfl (Nat.le_of_ble_eq_true rfl) (oneB_spec rfl)) rfl ?_
  rintro _ _ _ ⟨rfl, rfl, rfl⟩
  refine ⟨fun _ hI => Inv.nil hI, ?_⟩
  refine WA.nil ?_
  refine WP.thenC ?_
  refine WC.ret ?_
  refine WP.ret1 rfl rfl Try.results88 (RV.cellN Try.isAgg23 Try.sizeOf23 rfl (vs := [_, _]) rfl (by first | exact RdN.own (k := 0) (n := 2) rfl rfl | exact RdN.own (k := 1) (n := 2) rfl rfl)) (fun w1 hI => ⟨_, D, [(bc, cntO (j + 2))], rfl, DExt.refl _ _, hI.drop 1, rfl, rfl, rfl⟩)

end Go.Proofs.Ytkhmmefgllbobaa
/- Posts, claims and remainders that came in. -/
namespace Go.Proofs.Ytkhmmefgllbobaa
open Go.W Go.Po Go.ChangeShapes Go.WideShapes Go.RowKit Go.Deep
set_option maxRecDepth 100000 in
theorem len2 {α : Type} {l : List α} (h : l.length = 2) : ∃ a b, l = [a, b] := by
  match l, h with
  | [a, b], _ => exact ⟨a, b, rfl⟩
theorem len3 {α : Type} {l : List α} (h : l.length = 3) : ∃ a b c, l = [a, b, c] := by
  match l, h with
  | [a, b, c], _ => exact ⟨a, b, c, rfl⟩
theorem len1 {α : Type} {l : List α} (h : l.length = 1) : ∃ a, l = [a] := by
  match l, h with
  | [a], _ => exact ⟨a, rfl⟩
section
variable {H : Type} {enc : TypeId × Value → H} {w : World} {spare : Nat → Bool} {held : Bool}
set_option maxRecDepth 100000 in
theorem el23 {n : Nat} {cs : List Value} {y : DataW H × List MemPlace} (h : DataW.trod enc Try.prog w 0 spare held n 23 cs = some y) : ∃ lo hi, cs = [it lo, it hi] := by
  obtain ⟨xs, n', _, _, hlen, hxl, hf⟩ := DataW.trod_struct Try.underlying23 h
  have hc : Try.prog.cellsOf 23 = 2 := by kernel_rfl
  have hc3 : Try.prog.cellsOf 3 = 1 := by kernel_rfl
  rw [hc] at hlen
  obtain ⟨c0, c1, rfl⟩ := len2 hlen
  have h0 : DataW.trod enc Try.prog w 0 spare held n' 3 (([c0, c1].drop 0).take (Try.prog.cellsOf 3)) = xs[0]? := hf 0 _ rfl
  have h1 : DataW.trod enc Try.prog w 0 spare held n' 3 (([c0, c1].drop 1).take (Try.prog.cellsOf 3)) = xs[1]? := hf 1 _ rfl
  have hx : xs.length = 2 := hxl
  rw [List.getElem?_eq_getElem (by omega)] at h0 h1
  simp only [hc3] at h0 h1
  obtain ⟨a, ha, _, _⟩ := DataW.trod_int Try.underlying3 h0
  obtain ⟨b, hb, _, _⟩ := DataW.trod_int Try.underlying3 h1
  simp at ha hb
  subst ha; subst hb
  exact ⟨a, b, rfl⟩
set_option maxRecDepth 100000 in
theorem el56 {n : Nat} {cs : List Value} {y : DataW H × List MemPlace} (h : DataW.trod enc Try.prog w 0 spare held n 56 cs = some y) : ∃ u : Bath, cs = bathC u := by
  obtain ⟨xs, n', _, _, hlen, hxl, hf⟩ := DataW.trod_struct Try.underlying56 h
  have hc : Try.prog.cellsOf 56 = 3 := by kernel_rfl
  have hc4 : Try.prog.cellsOf 4 = 1 := by kernel_rfl
  have hc23 : Try.prog.cellsOf 23 = 2 := by kernel_rfl
  rw [hc] at hlen
  obtain ⟨c0, c1, c2, rfl⟩ := len3 hlen
  have h0 : DataW.trod enc Try.prog w 0 spare held n' 4 (([c0, c1, c2].drop 0).take (Try.prog.cellsOf 4)) = xs[0]? := hf 0 _ rfl
  have h1 : DataW.trod enc Try.prog w 0 spare held n' 23 (([c0, c1, c2].drop 1).take (Try.prog.cellsOf 23)) = xs[1]? := hf 1 _ rfl
  have hx : xs.length = 2 := hxl
  rw [List.getElem?_eq_getElem (by omega)] at h0 h1
  simp only [hc4, hc23] at h0 h1
  obtain ⟨b, hb, _⟩ := DataW.trod_bool Try.underlying4 h0
  obtain ⟨lo, hi, ha⟩ := el23 h1
  simp at ha hb
  obtain ⟨rfl, rfl⟩ := ha
  subst hb
  exact ⟨⟨b, ⟨lo, hi⟩⟩, rfl⟩
set_option maxRecDepth 100000 in
theorem el47 {n : Nat} {cs : List Value} {y : DataW H × List MemPlace} (h : DataW.trod enc Try.prog w 0 spare held n 47 cs = some y) : ∃ u : PClaim, cs = claimC u := by
  obtain ⟨xs, n', _, _, hlen, hxl, hf⟩ := DataW.trod_struct Try.underlying47 h
  have hc : Try.prog.cellsOf 47 = 3 := by kernel_rfl
  have hc4 : Try.prog.cellsOf 4 = 1 := by kernel_rfl
  have hc3 : Try.prog.cellsOf 3 = 1 := by kernel_rfl
  rw [hc] at hlen
  obtain ⟨c0, c1, c2, rfl⟩ := len3 hlen
  have h0 : DataW.trod enc Try.prog w 0 spare held n' 3 (([c0, c1, c2].drop 0).take (Try.prog.cellsOf 3)) = xs[0]? := hf 0 _ rfl
  have h1 : DataW.trod enc Try.prog w 0 spare held n' 3 (([c0, c1, c2].drop 1).take (Try.prog.cellsOf 3)) = xs[1]? := hf 1 _ rfl
  have h2 : DataW.trod enc Try.prog w 0 spare held n' 4 (([c0, c1, c2].drop 2).take (Try.prog.cellsOf 4)) = xs[2]? := hf 2 _ rfl
  have hx : xs.length = 3 := hxl
  rw [List.getElem?_eq_getElem (by omega)] at h0 h1 h2
  simp only [hc3, hc4] at h0 h1 h2
  obtain ⟨a, ha, _, _⟩ := DataW.trod_int Try.underlying3 h0
  obtain ⟨b, hb, _, _⟩ := DataW.trod_int Try.underlying3 h1
  obtain ⟨c, hc, _⟩ := DataW.trod_bool Try.underlying4 h2
  simp at ha hb hc
  subst ha; subst hb; subst hc
  exact ⟨⟨a, b, c⟩, rfl⟩
set_option maxRecDepth 100000 in
theorem open_post {v : Value} {d : DataW H} {p : List MemPlace} (hv : Value.okWide Try.prog w .any 0 27 v) (h : DataW.Trod enc Try.prog w 0 spare held 27 v d p) :
    ∃ (q : Post) (a1 : Option Addr) (n1 c1 : Nat) (a2 : Option Addr) (n2 c2 : Nat), v = .agg #[it q.post.lo, it q.post.hi, .slice a1 n1 c1, .slice a2 n2 c2] ∧ SlL (heapI w) 3 (q.bathers.map bathC) a1 n1 ∧ SlL (heapI w) 3 (q.claims.map claimC) a2 n2 ∧ n1 ≤ maxLen ∧ n2 ≤ maxLen := by
  obtain ⟨cs, rfl, hsz⟩ := okWide_struct Try.underlying27 hv
  have hc : Try.prog.cellsOf 27 = 4 := by kernel_rfl
  have hc23 : Try.prog.cellsOf 23 = 2 := by kernel_rfl
  have hc24 : Try.prog.cellsOf 24 = 1 := by kernel_rfl
  have hc25 : Try.prog.cellsOf 25 = 1 := by kernel_rfl
  rw [hc] at hsz
  obtain ⟨c0, c1, c2, c3, rfl⟩ := Go.Joins.array4 hsz
  obtain ⟨fuel, hf⟩ := h
  obtain ⟨xs, n', _, _, hlen, hxl, hff⟩ := DataW.trod_struct Try.underlying27 hf
  have h0 : DataW.trod enc Try.prog w 0 spare held n' 23 (([c0, c1, c2, c3].drop 0).take (Try.prog.cellsOf 23)) = xs[0]? := hff 0 _ rfl
  have h1 : DataW.trod enc Try.prog w 0 spare held n' 24 (([c0, c1, c2, c3].drop 2).take (Try.prog.cellsOf 24)) = xs[1]? := hff 1 _ rfl
  have h2 : DataW.trod enc Try.prog w 0 spare held n' 25 (([c0, c1, c2, c3].drop 3).take (Try.prog.cellsOf 25)) = xs[2]? := hff 2 _ rfl
  have hx : xs.length = 3 := hxl
  rw [List.getElem?_eq_getElem (by omega)] at h0 h1 h2
  simp only [hc23, hc24, hc25] at h0 h1 h2
  obtain ⟨lo, hi, ha⟩ := el23 h0
  obtain ⟨l1, a1, n1, k1, e1, m1, s1⟩ := open_sl (m := 3) bathC Try.underlying24 (by kernel_rfl) (by decide) (fun _ _ _ h _ => el56 h) h1
  obtain ⟨l2, a2, n2, k2, e2, m2, s2⟩ := open_sl (m := 3) claimC Try.underlying25 (by kernel_rfl) (by decide) (fun _ _ _ h _ => el47 h) h2
  simp at ha e1 e2
  obtain ⟨rfl, rfl⟩ := ha
  subst e1; subst e2
  exact ⟨⟨⟨lo, hi⟩, l1, l2⟩, a1, n1, k1, a2, n2, k2, rfl, s1, s2, m1, m2⟩
theorem wf_u16 {n : Int} (h : (Lit.int .u16 n).wf = true) : 0 ≤ n ∧ n ≤ 65535 := by
  simp [Lit.wf, IntKind.min, IntKind.max, IntKind.bits, IntKind.signed] at h
  omega
theorem wf_u8 {n : Int} (h : (Lit.int .u8 n).wf = true) : 0 ≤ n ∧ n ≤ 255 := by
  simp [Lit.wf, IntKind.min, IntKind.max, IntKind.bits, IntKind.signed] at h
  omega
end
abbrev U16 := { x : Int // 0 ≤ x ∧ x ≤ 65535 }
instance : Inhabited U16 := ⟨⟨0, by omega⟩⟩
section
variable {H : Type} {enc : TypeId × Value → H} {w : World} {spare : Nat → Bool} {held : Bool}
set_option maxRecDepth 100000 in
theorem open_u16s {v : Value} {d : DataW H} {p : List MemPlace} (hv : Value.okWide Try.prog w .any 0 49 v) (h : DataW.Trod enc Try.prog w 0 spare held 49 v d p) :
    ∃ (l : List Int) (a : Option Addr) (n c : Nat), v = .slice a n c ∧ SlL (heapI w) 1 (l.map u16C) a n ∧ (∀ i, i < l.length → 0 ≤ gt l i ∧ gt l i ≤ 65535) ∧ n ≤ maxLen := by
  obtain ⟨fuel, hf⟩ := h
  obtain ⟨l, a, n, c, e, m, s⟩ := open_sl (m := 1) (fun x : U16 => u16C x.1) Try.underlying49 (by kernel_rfl) (by decide) (fun _ cs' y h _ => by
    obtain ⟨b, hb, _, hw⟩ := DataW.trod_int Try.underlying120 h
    exact ⟨⟨b, wf_u16 hw⟩, hb⟩) hf
  obtain ⟨_, _, _, rfl⟩ := okWide_slice Try.underlying49 hv
  simp only [Value.cells, List.cons.injEq, and_true] at e
  refine ⟨l.map (·.1), a, n, c, e, by rw [List.map_map]; exact s, fun i hi => ?_, m⟩
  rw [List.length_map] at hi
  have : gt (l.map (·.1)) i = (gt l i).1 := by simp [gt, List.getD, hi]
  rw [this]
  exact (gt l i).2
end
end Go.Proofs.Ytkhmmefgllbobaa
