import Derived.Test.YtkhmmefgllbobaaXN
set_option linter.unusedSimpArgs false
set_option linter.unusedVariables false
set_option linter.all false
/- What is told of a post, said by its truths; no program in sight. -/
namespace Go.Proofs.Ytkhmmefgllbobaa
open Go.W Go.Po
/-- everybody is where they can be -/
def InP (p : Post) (x : Nat → Int) : Prop := x 0 = 0 ∧ ∀ i, i < nodes p → (placeN p i).lo ≤ x i ∧ x i ≤ (placeN p i).hi
/-- a claim is right -/
def COk (x : Nat → Int) (c : PClaim) : Prop := RuleOk x (claimR c)
theorem cok_iff (x : Nat → Int) (c : PClaim) : COk x c ↔ (x (ix c.a) < x (ix c.b) ↔ c.not = false) := by
  unfold COk claimR RuleOk
  cases c.not <;> simp
theorem selR_mem (p : Post) (s : Nat) (q : Rule → Prop) : ∀ k, (∀ r ∈ selR p s k, q r) ↔ ∀ i, i < k → s / 2 ^ i % 2 = 1 → q (claimR (gt p.claims i)) := by
  intro k
  induction k with
  | zero => simp [selR]
  | succ k ih =>
    simp only [selR]
    constructor
    · intro h i hi hb
      rcases Nat.lt_or_ge i k with h1 | h1
      · refine ih.1 (fun r hr => h r ?_) i h1 hb
        split
        · exact List.mem_append.2 (.inl hr)
        · exact hr
      · obtain rfl : i = k := by omega
        rw [if_pos hb] at h
        exact h _ (List.mem_append.2 (.inr (List.mem_singleton.2 rfl)))
    · intro h r hr
      split at hr
      · rename_i hb
        rcases List.mem_append.1 hr with h1 | h1
        · exact ih.2 (fun i hi => h i (by omega)) r h1
        · rw [List.mem_singleton.1 h1]; exact h k (by omega) hb
      · exact ih.2 (fun i hi => h i (by omega)) r hr
theorem rule_mem {l : List Rule} {q : Rule → Prop} : (∀ i, i < l.length → q (gt l i)) ↔ ∀ r ∈ l, q r := by
  constructor
  · intro h r hr
    obtain ⟨i, hi, rfl⟩ := List.getElem_of_mem hr
    have := h i hi
    simpa [gt, List.getD, hi] using this
  · intro h i hi
    exact h _ (gt_mem hi)
theorem sol_iff {p : Post} {l : List Rule} {x : Nat → Int} : Sol p l x ↔ InP p x ∧ ∀ r ∈ l, RuleOk x r :=
  ⟨fun h => ⟨⟨h.zero, h.place⟩, rule_mem.1 h.rule⟩, fun ⟨⟨h0, h1⟩, h2⟩ => ⟨h0, h1, rule_mem.2 h2⟩⟩
theorem sol_sel {p : Post} {s : Nat} {x : Nat → Int} : Sol p (selA p s) x ↔ InP p x ∧ ∀ i, i < p.claims.length → s / 2 ^ i % 2 = 1 → COk x (gt p.claims i) := by
  rw [sol_iff]
  exact and_congr_right fun _ => selR_mem p s (RuleOk x) _
theorem every_bit {n k : Nat} (h : k < n) : (2 ^ n - 1) / 2 ^ k % 2 = 1 := by
  have e : 2 ^ n = 2 ^ k * (2 * 2 ^ (n - k - 1)) := by
    rw [← Nat.pow_succ', ← Nat.pow_add]; congr 1; omega
  have h0 := Nat.two_pow_pos k
  have h1 := Nat.two_pow_pos (n - k - 1)
  have e2 : 2 ^ n - 1 = (2 ^ k - 1) + 2 ^ k * (2 * 2 ^ (n - k - 1) - 1) := by
    rw [e, Nat.mul_sub, Nat.mul_one]
    have : 2 ^ k ≤ 2 ^ k * (2 * 2 ^ (n - k - 1)) := Nat.le_mul_of_pos_right _ (by omega)
    omega
  rw [e2, Nat.add_mul_div_left _ _ h0, Nat.div_eq_of_lt (by omega)]
  omega
theorem sol_all {p : Post} {x : Nat → Int} : Sol p (allR p) x ↔ InP p x ∧ ∀ c ∈ p.claims, COk x c := by
  unfold allR
  rw [sol_sel]
  refine and_congr_right fun _ => ⟨fun h c hc => ?_, fun h i hi _ => h _ (gt_mem hi)⟩
  obtain ⟨i, hi, rfl⟩ := List.getElem_of_mem hc
  have := h i hi (every_bit hi)
  simpa [gt, List.getD, hi] using this
theorem ok_iff {p : Post} (hv : postB p = true) : okA p = true ↔ ∃ x, Sol p (allR p) x := far_ok (allR_in hv).in
theorem told_if {p : Post} (hv : postB p = true) {v : Bool} (h : v = true) : toldE p v = if okA p = true then 0 else 10 := by
  unfold toldE
  subst h
  rw [if_neg (by rw [hv]; simp), if_neg (by simp)]
  cases okA p <;> simp
theorem told_range {p : Post} (hv : postB p = true) : toldE p false = 2 := by
  unfold toldE
  rw [if_neg (by rw [hv]; simp), if_pos rfl]
theorem told_arg {p : Post} (hv : postB p = false) (v : Bool) : toldE p v = 1 := by
  unfold toldE
  rw [if_pos hv]
/-! ### with a claim more; with a place known -/
def withP (p : Post) (c : PClaim) : Post := ⟨p.post, p.bathers, p.claims ++ [c]⟩
def spotP (p : Post) (who k : Int) : Post := if who < 0 then ⟨⟨k, k⟩, p.bathers, p.claims⟩ else ⟨p.post, p.bathers.set who.toNat ⟨(gt p.bathers who.toNat).lady, ⟨k, k⟩⟩, p.claims⟩
theorem place_with (p : Post) (c : PClaim) (i : Nat) : placeN (withP p c) i = placeN p i := by
  unfold withP placeN
  split <;> rfl
theorem inP_with {p : Post} {c : PClaim} {x : Nat → Int} : InP (withP p c) x ↔ InP p x := by
  unfold InP
  simp only [place_with]
  exact Iff.rfl
theorem sol_with {p : Post} {c : PClaim} {x : Nat → Int} : Sol (withP p c) (allR (withP p c)) x ↔ Sol p (allR p) x ∧ COk x c := by
  rw [sol_all, sol_all, inP_with]
  unfold withP
  simp only [List.mem_append, List.mem_singleton]
  constructor
  · rintro ⟨h1, h2⟩
    exact ⟨⟨h1, fun d hd => h2 d (.inl hd)⟩, h2 c (.inr rfl)⟩
  · rintro ⟨⟨h1, h2⟩, h3⟩
    refine ⟨h1, fun d hd => ?_⟩
    rcases hd with hd | rfl
    · exact h2 d hd
    · exact h3
theorem with_ok {p : Post} (hv : postB p = true) (h8 : p.claims.length ≤ 7) {c : PClaim} (hc : claimP p c = true) : postB (withP p c) = true := by
  obtain ⟨h1, h2, h3, h4, h5⟩ := (postB_iff p).1 hv
  refine (postB_iff _).2 ⟨h1, h2, ?_, h4, fun i hi => ?_⟩
  · simp only [withP, List.length_append, List.length_cons, List.length_nil]; omega
  · have hi' : i < p.claims.length + 1 := by simpa [withP] using hi
    show claimP p (gt (p.claims ++ [c]) i) = true
    have e : gt (p.claims ++ [c]) i = if i < p.claims.length then gt p.claims i else c := by
      unfold gt List.getD
      split
      · rename_i h; rw [List.getElem?_append_left h]
      · rename_i h; rw [List.getElem?_append_right (by omega), show i - p.claims.length = 0 by omega]; rfl
    rw [e]
    split
    · rename_i h; exact h5 i h
    · exact hc
theorem with_len (p : Post) (c : PClaim) : (withP p c).claims.length = p.claims.length + 1 := by simp [withP]
/-- where somebody can be -/
def ownS (p : Post) (a : Int) : Sp := if a < 0 then p.post else (gt p.bathers a.toNat).place
theorem own_place {p : Post} {a : Int} (h : whoP p a = true) : placeN p (ix a) = ownS p a := by
  have := of_decide_eq_true h
  unfold ownS ix
  split
  · rw [show (a + 2).toNat = 1 by omega]; rfl
  · obtain ⟨k, rfl⟩ := Int.eq_ofNat_of_zero_le (show 0 ≤ a by omega)
    rw [show ((k : Int) + 2).toNat = k + 2 by omega]; rfl
theorem spot_nodes (p : Post) (a k : Int) : nodes (spotP p a k) = nodes p := by
  unfold spotP nodes
  split <;> simp
theorem spot_claims (p : Post) (a k : Int) : (spotP p a k).claims = p.claims := by
  unfold spotP
  split <;> rfl
theorem spot_len (p : Post) (a k : Int) : (spotP p a k).bathers.length = p.bathers.length := by
  unfold spotP
  split <;> simp
theorem gt_setX {α : Type} [Inhabited α] (l : List α) (i j : Nat) (v : α) (h : i < l.length) : gt (l.set i v) j = if j = i then v else gt l j := by
  unfold gt List.getD
  rw [List.getElem?_set]
  by_cases e : i = j
  · subst e; simp [h]
  · rw [if_neg e, if_neg (fun e' => e e'.symm)]
theorem spot_place {p : Post} {a : Int} (h : whoP p a = true) (k : Int) (i : Nat) : placeN (spotP p a k) i = if i = ix a then ⟨k, k⟩ else placeN p i := by
  have hb := of_decide_eq_true h
  unfold spotP ix
  split
  · rw [show (a + 2).toNat = 1 by omega]
    match i with
    | 0 => rfl
    | 1 => rfl
    | i + 2 => rw [if_neg (by omega)]; rfl
  · obtain ⟨j, rfl⟩ := Int.eq_ofNat_of_zero_le (show 0 ≤ a by omega)
    rw [show ((j : Int) + 2).toNat = j + 2 by omega]
    match i with
    | 0 => rfl
    | 1 => rfl
    | i + 2 =>
      show (gt (p.bathers.set (Int.toNat j) _) i).place = _
      rw [gt_setX _ _ _ _ (by omega)]
      simp only [Int.toNat_natCast]
      by_cases e : i = j
      · subst e; rw [if_pos rfl, if_pos rfl]
      · rw [if_neg e, if_neg (by omega)]; rfl
theorem sol_spot {p : Post} {a : Int} (h : whoP p a = true) {k : Int} (hk : (ownS p a).lo ≤ k ∧ k ≤ (ownS p a).hi) {x : Nat → Int} : Sol (spotP p a k) (allR (spotP p a k)) x ↔ Sol p (allR p) x ∧ x (ix a) = k := by
  have hi := ix_who h
  rw [sol_all, sol_all, spot_claims]
  unfold InP
  rw [spot_nodes]
  simp only [spot_place h]
  constructor
  · rintro ⟨⟨h0, h1⟩, h2⟩
    have ha := h1 (ix a) hi.1
    rw [if_pos rfl] at ha
    refine ⟨⟨⟨h0, fun i hin => ?_⟩, h2⟩, by have := ha.1; have := ha.2; dsimp only at *; omega⟩
    by_cases e : i = ix a
    · subst e; rw [own_place h]; dsimp only at ha; omega
    · have := h1 i hin; rwa [if_neg e] at this
  · rintro ⟨⟨⟨h0, h1⟩, h2⟩, h3⟩
    refine ⟨⟨h0, fun i hin => ?_⟩, h2⟩
    by_cases e : i = ix a
    · subst e; rw [if_pos rfl]; dsimp only; omega
    · rw [if_neg e]; exact h1 i hin
theorem spot_ok {p : Post} (hv : postB p = true) {a : Int} (h : whoP p a = true) {k : Int} (hk : 0 ≤ k ∧ k ≤ 40) : postB (spotP p a k) = true := by
  have hb := of_decide_eq_true h
  obtain ⟨h1, h2, h3, h4, h5⟩ := (postB_iff p).1 hv
  have hs : spanP ⟨k, k⟩ = true := decide_eq_true ⟨hk.1, Int.le_refl _, hk.2⟩
  have hl := spot_len p a k
  refine (postB_iff _).2 ⟨?_, by omega, by rw [spot_claims]; exact h3, fun i hi => ?_, fun i hi => ?_⟩
  · unfold spotP; split
    · exact hs
    · exact h1
  · rw [hl] at hi
    unfold spotP; split
    · exact h4 i hi
    · rename_i hn
      dsimp only
      rw [gt_setX _ _ _ _ (by omega)]
      split
      · exact hs
      · exact h4 i hi
  · rw [spot_claims] at hi ⊢
    have := h5 i hi
    simpa only [claimP, whoP, hl] using this
/-! ### what is told -/
theorem place_in {p : Post} (hv : postB p = true) (hok : okA p = true) {n : Int} (hn : whoP p n = true) (v : Int) : (-GA p (ix n) 0 ≤ v ∧ v ≤ GA p 0 (ix n)) ↔ ∃ x, Sol p (allR p) x ∧ x (ix n) = v := by
  have hi := ix_who hn
  have h0 : 0 < nodes p := by unfold nodes; omega
  constructor
  · rintro ⟨h1, h2⟩
    obtain ⟨x, hx, e⟩ := far_sol (allR_in hv).in hok h0 hi.1 h2 h1 (fun e => by omega)
    exact ⟨x, hx, by have := hx.zero; omega⟩
  · rintro ⟨x, hx, rfl⟩
    have h1 := far_le hok hi.1 h0 hx
    have h2 := far_le hok h0 hi.1 hx
    have := hx.zero
    unfold GA; omega
theorem gap_in {p : Post} (hv : postB p = true) (hok : okA p = true) {a b : Int} (ha : whoP p a = true) (hb : whoP p b = true) (v : Int) : (-GA p (ix b) (ix a) ≤ v ∧ v ≤ GA p (ix a) (ix b)) ↔ ∃ x, Sol p (allR p) x ∧ x (ix b) - x (ix a) = v := by
  have hi := ix_who ha
  have hj := ix_who hb
  constructor
  · rintro ⟨h1, h2⟩
    obtain ⟨x, hx, e⟩ := far_sol (allR_in hv).in hok hi.1 hj.1 h2 h1 (fun e => by
      have := (far_ends (allR_in hv).in hok hi.1 hj.1).2 e
      have h3 := (far_ends (allR_in hv).in hok hj.1 hi.1).2 e.symm
      unfold GA at h1 h2; omega)
    exact ⟨x, hx, e⟩
  · rintro ⟨x, hx, rfl⟩
    have h1 := far_le hok hi.1 hj.1 hx
    have h2 := far_le hok hj.1 hi.1 hx
    unfold GA; omega
theorem before_some {p : Post} (hv : postB p = true) (hok : okA p = true) {a b : Int} (ha : whoP p a = true) (hb : whoP p b = true) : 0 < GA p (ix a) (ix b) ↔ ∃ x, Sol p (allR p) x ∧ x (ix a) < x (ix b) := by
  have hi := ix_who ha
  have hj := ix_who hb
  constructor
  · intro h
    obtain ⟨x, hx, e⟩ := far_max (allR_in hv).in hok hi.1 hj.1
    exact ⟨x, hx, by unfold GA at h; omega⟩
  · rintro ⟨x, hx, h⟩
    have h1 := far_le hok hi.1 hj.1 hx
    unfold GA; omega
theorem before_not {p : Post} (hv : postB p = true) (hok : okA p = true) {a b : Int} (ha : whoP p a = true) (hb : whoP p b = true) : -GA p (ix b) (ix a) ≤ 0 ↔ ∃ x, Sol p (allR p) x ∧ ¬ x (ix a) < x (ix b) := by
  have hi := ix_who ha
  have hj := ix_who hb
  constructor
  · intro h
    obtain ⟨x, hx, e⟩ := far_max (allR_in hv).in hok hj.1 hi.1
    exact ⟨x, hx, by unfold GA at h; omega⟩
  · rintro ⟨x, hx, h⟩
    have h1 := far_le hok hj.1 hi.1 hx
    unfold GA; omega
theorem grade_two (a b : Bool) : gradeI a b = 2 ↔ b = false := by cases a <;> cases b <;> simp [gradeI]
theorem grade_zero (a b : Bool) : gradeI a b = 0 ↔ b = true ∧ a = false := by cases a <;> cases b <;> simp [gradeI]
theorem near_in {lo hi : Int} (h : lo ≤ hi) (m : Int) : ((nearS lo hi).lo ≤ m ∧ m ≤ (nearS lo hi).hi) ↔ ∃ v, lo ≤ v ∧ v ≤ hi ∧ max v (-v) = m := by
  unfold nearS
  split
  · dsimp only
    constructor
    · intro hm; exact ⟨-m, by omega, by omega, by omega⟩
    · rintro ⟨v, h1, h2, rfl⟩; omega
  · dsimp only
    constructor
    · intro hm
      by_cases hc : m ≤ hi
      · by_cases hc2 : lo ≤ m
        · exact ⟨m, by omega, by omega, by omega⟩
        · exact ⟨-m, by omega, by omega, by omega⟩
      · exact ⟨-m, by omega, by omega, by omega⟩
    · rintro ⟨v, h1, h2, rfl⟩; omega
/-! ### who broke it, how many -/
theorem someS_lt (p : Post) : someS p < 2 ^ p.bathers.length := setTo_lt _ _
theorem all_some {p : Post} (hv : postB p = true) {x : Nat → Int} (hx : Sol p (allR p) x) : IntKind.i64.wrap ((BitVec.ofInt 64 ((allS p : Nat) : Int) &&& ~~~(BitVec.ofInt 64 ((someS p : Nat) : Int))).toNat) = 0 :=
  sub_not _ (setTo_32 _ (post_num hv).2.1) _ (setTo_32 _ (post_num hv).2.1) fun i _ => setTo_sub (fun i hi h => brk_some hv hx hi (all_brk hv hx hi h)) i
theorem broke_nn {p : Post} (hv : postB p = true) {v : Int} (h : v ∈ brokeL p) : 0 ≤ v := by
  obtain ⟨x, _, rfl⟩ := mem_brk hv h
  omega
def loF (p : Post) : Int := minTo (brokeL p) (brokeL p).length
def hiF (p : Post) : Int := maxTo (brokeL p) (brokeL p).length
theorem lo_le {p : Post} {v : Int} (h : v ∈ brokeL p) : loF p ≤ v := by
  obtain ⟨i, hi, rfl⟩ := List.getElem_of_mem h
  have := minTo_le (brokeL p) _ i hi
  simpa [gt, List.getD, hi, loF] using this
theorem le_hi {p : Post} {v : Int} (h : v ∈ brokeL p) : v ≤ hiF p := by
  obtain ⟨i, hi, rfl⟩ := List.getElem_of_mem h
  have := le_maxTo (brokeL p) _ i hi
  simpa [gt, List.getD, hi, hiF] using this
theorem lo_mem {p : Post} (hv : postB p = true) (hok : okA p = true) : loF p ∈ brokeL p := by
  obtain ⟨i, hi, e⟩ := minTo_mem (brokeL p) _ (brokeL_pos hv hok)
  unfold loF; rw [e]; exact gt_mem hi
theorem hi_mem {p : Post} (hv : postB p = true) (hok : okA p = true) : hiF p ∈ brokeL p := by
  obtain ⟨i, hi, e⟩ := maxTo_mem (brokeL p) _ (brokeL_pos hv hok)
  unfold hiF; rw [e]; exact gt_mem hi
theorem lo_all {p : Post} (hv : postB p = true) (hok : okA p = true) : ((pop (allS p) : Nat) : Int) ≤ loF p := by
  obtain ⟨x, hx, e⟩ := mem_brk hv (lo_mem hv hok)
  rw [e]; have := all_pop hv hx; omega
theorem hi_some {p : Post} (hv : postB p = true) (hok : okA p = true) : hiF p ≤ ((pop (someS p) : Nat) : Int) := by
  obtain ⟨x, hx, e⟩ := mem_brk hv (hi_mem hv hok)
  rw [e]; have := some_pop hv hx; omega
def keptG (p : Post) : Int := gradeI ((brokeL p).any fun m => decide (m = 0)) ((brokeL p).any fun m => decide (0 < m))
theorem kept_two {p : Post} (hv : postB p = true) (hok : okA p = true) : keptG p = 2 ↔ hiF p = 0 := by
  unfold keptG
  rw [grade_two]
  constructor
  · intro h
    have h1 := hi_mem hv hok
    have h2 := broke_nn hv h1
    have h3 := List.any_eq_false.1 h _ h1
    simp at h3; omega
  · intro h
    rw [List.any_eq_false]
    intro v hm
    have := le_hi hm
    simp; omega
theorem kept_zero {p : Post} (hv : postB p = true) (hok : okA p = true) : keptG p = 0 ↔ 0 < loF p := by
  unfold keptG
  rw [grade_zero]
  constructor
  · rintro ⟨_, h⟩
    have h1 := lo_mem hv hok
    have h2 := broke_nn hv h1
    have h3 := List.any_eq_false.1 h _ h1
    simp at h3; omega
  · intro h
    refine ⟨List.any_eq_true.2 ⟨_, lo_mem hv hok, by simp; omega⟩, List.any_eq_false.2 fun v hm => ?_⟩
    have := lo_le hm
    simp; omega
theorem pop_zero : ∀ a, a < 32 → (pop a = 0 ↔ a = 0) := of_decide_eq_true (by kernel_rfl)
theorem brS_32 {p : Post} (hv : postB p = true) (x : Nat → Int) : brS p x < 32 := setTo_32 _ (post_num hv).2.1
theorem kept_out {p : Post} (hv : postB p = true) (hok : okA p = true) : KeptOut p = (keptG p, 0) := by
  unfold KeptOut; rw [if_neg (by rw [told_zero hv hok]; simp)]; rfl
theorem few_out {p : Post} (hv : postB p = true) (hok : okA p = true) : FewestOut p = (⟨loF p, hiF p⟩, 0) := by
  unfold FewestOut; rw [if_neg (by rw [told_zero hv hok]; simp)]; rfl
theorem breaks_out {p : Post} (hv : postB p = true) (hok : okA p = true) : BreaksOut p = (((allS p : Nat) : Int), ((someS p : Nat) : Int), 0) := by
  unfold BreaksOut; rw [if_neg (by rw [told_zero hv hok]; simp)]; rfl
theorem place_out {p : Post} (hv : postB p = true) (hok : okA p = true) {n : Int} (hn : whoP p n = true) : PlaceOut p n = (⟨-GA p (ix n) 0, GA p 0 (ix n)⟩, 0) := by
  unfold PlaceOut; rw [told_if hv hn, if_pos hok, if_neg (by simp)]
theorem and_t {a b : Bool} (ha : a = true) (hb : b = true) : (a && b) = true := by rw [ha, hb]; rfl
theorem before_out {p : Post} (hv : postB p = true) (hok : okA p = true) {a b : Int} (ha : whoP p a = true) (hb : whoP p b = true) : BeforeOut p a b = (gradeI (decide (0 < GA p (ix a) (ix b))) (decide (-GA p (ix b) (ix a) ≤ 0)), 0) := by
  unfold BeforeOut; rw [told_if hv (and_t ha hb), if_pos hok, if_neg (by simp)]
theorem near_out {p : Post} (hv : postB p = true) (hok : okA p = true) {a b : Int} (ha : whoP p a = true) (hb : whoP p b = true) : NearOut p a b = (nearS (-GA p (ix b) (ix a)) (GA p (ix a) (ix b)), 0) := by
  unfold NearOut; rw [told_if hv (and_t ha hb), if_pos hok, if_neg (by simp)]
theorem told_bad {p : Post} (hv : postB p = true) (hok : okA p = false) {v : Bool} (h : v = true) : toldE p v = 10 := by
  rw [told_if hv h, if_neg (by rw [hok]; simp)]
theorem shr_zero {a n : Nat} (ha : a < 2 ^ n) (hn : n ≤ 5) : ((a : Nat) : Int).fdiv (2 ^ (min ((n : Nat) : Int).toNat IntKind.i64.bits)) = 0 := by
  have e : min ((n : Nat) : Int).toNat IntKind.i64.bits = n := by
    show min n 64 = n; omega
  have h2 : (2 : Int) ^ n = ((2 ^ n : Nat) : Int) := by rw [Int.natCast_pow]; rfl
  rw [e, h2, Int.fdiv_eq_ediv_of_nonneg _ (by omega)]
  exact Int.ediv_eq_zero_of_lt (by omega) (by omega)
theorem brk_of {p : Post} {x : Nat → Int} {k : Nat} {u v : Int} (hu : u = x (k + 2)) (hv : v = x 1) {b : Bool} (h : (decide (u < v) != (gt p.bathers k).lady) = b) : decide (Brk p x k) = b := by
  subst hu; subst hv; rw [← h]; unfold Brk
  by_cases h1 : x (k + 2) < x 1 <;> by_cases h2 : (gt p.bathers k).lady = true <;> simp [h1, h2]
theorem kept_brS2 {p : Post} (hv : postB p = true) {x : Nat → Int} (hx : Sol p (allR p) x) (h : keptG p = 2) : brS p x = 0 := by
  have h1 := (kept_two hv (sol_ok hv hx)).1 h
  have h2 := le_hi (brk_mem hv hx)
  exact (pop_zero _ (brS_32 hv x)).1 (by omega)
theorem kept_brS0 {p : Post} (hv : postB p = true) {x : Nat → Int} (hx : Sol p (allR p) x) (h : keptG p = 0) : ¬ brS p x = 0 := by
  have h1 := (kept_zero hv (sol_ok hv hx)).1 h
  have h2 := lo_le (brk_mem hv hx)
  intro e
  rw [e] at h2
  have : pop 0 = 0 := rfl
  omega
theorem brS_nat (p : Post) (x : Nat → Int) (h : ((brS p x : Nat) : Int) = 0) : brS p x = 0 := by omega
theorem bef_two {p : Post} (hv : postB p = true) (hok : okA p = true) {a b : Int} (ha : whoP p a = true) (hb : whoP p b = true) {x : Nat → Int} (hx : Sol p (allR p) x) (h : gradeI (decide (0 < GA p (ix a) (ix b))) (decide (-GA p (ix b) (ix a) ≤ 0)) = 2) : x (ix a) < x (ix b) := by
  have h1 := of_decide_eq_false ((grade_two _ _).1 h)
  exact Classical.byContradiction fun hn => h1 ((before_not hv hok ha hb).2 ⟨x, hx, hn⟩)
theorem bef_zero {p : Post} (hv : postB p = true) (hok : okA p = true) {a b : Int} (ha : whoP p a = true) (hb : whoP p b = true) {x : Nat → Int} (hx : Sol p (allR p) x) (h : gradeI (decide (0 < GA p (ix a) (ix b))) (decide (-GA p (ix b) (ix a) ≤ 0)) = 0) : ¬ x (ix a) < x (ix b) := by
  have h1 := of_decide_eq_false ((grade_zero _ _).1 h).2
  exact fun hn => h1 ((before_some hv hok ha hb).2 ⟨x, hx, hn⟩)
theorem near_at {p : Post} (hv : postB p = true) (hok : okA p = true) {a b : Int} (ha : whoP p a = true) (hb : whoP p b = true) {x : Nat → Int} (hx : Sol p (allR p) x) : (nearS (-GA p (ix b) (ix a)) (GA p (ix a) (ix b))).lo ≤ max (x (ix b) - x (ix a)) (-(x (ix b) - x (ix a))) ∧ max (x (ix b) - x (ix a)) (-(x (ix b) - x (ix a))) ≤ (nearS (-GA p (ix b) (ix a)) (GA p (ix a) (ix b))).hi := by
  have h1 := (gap_in hv hok ha hb _).2 ⟨x, hx, rfl⟩
  exact (near_in (by omega) _).2 ⟨_, h1.1, h1.2, rfl⟩
theorem sol_num {p : Post} (hv : postB p = true) {x : Nat → Int} (hx : Sol p (allR p) x) {a : Int} (ha : whoP p a = true) : 0 ≤ x (ix a) ∧ x (ix a) ≤ 40 := by
  have hi := (ix_who ha).1
  have h1 := hx.place _ hi
  have h2 := place_num hv hi
  omega
end Go.Proofs.Ytkhmmefgllbobaa
/- False and Clash of a post, said by its truths; no program in sight. -/
namespace Go.Proofs.Ytkhmmefgllbobaa
open Go.W Go.Po
def SetLt (a b : Nat) : Prop := pop a < pop b ∨ (pop a = pop b ∧ a < b)
theorem setsL_pair (k : Nat) : (setsL k).Pairwise SetLt := by
  unfold setsL
  rw [List.pairwise_flatMap]
  constructor
  · intro c _
    refine List.Pairwise.imp_of_mem ?_ ((List.pairwise_lt_range (n := 2 ^ k)).filter _)
    intro a b ha hb hab
    have h1 := (List.mem_filter.1 ha).2
    have h2 := (List.mem_filter.1 hb).2
    simp only [decide_eq_true_eq] at h1 h2
    exact .inr ⟨by rw [h1, h2], hab⟩
  · refine List.Pairwise.imp ?_ (List.pairwise_lt_range (n := 9))
    intro c d hcd a ha b hb
    have h1 := (List.mem_filter.1 ha).2
    have h2 := (List.mem_filter.1 hb).2
    simp only [decide_eq_true_eq] at h1 h2
    exact .inl (by omega)
theorem pop_8 (y : Nat) : pop y ≤ 8 := by unfold pop; omega
theorem setsL_mem {k y : Nat} (hy : y < 2 ^ k) : y ∈ setsL k := by
  have := pop_8 y
  simp only [setsL, List.mem_flatMap, List.mem_filter, List.mem_range, decide_eq_true_eq]
  exact ⟨pop y, by omega, hy, rfl⟩
theorem first_of {k : Nat} (hk : k < 9) {f : Nat → Bool} (h : ∃ y, y < 2 ^ k ∧ f y = true) : f (fstP (setsL k) f).1 = true ∧ (fstP (setsL k) f).1 < 2 ^ k ∧ ∀ y, y < 2 ^ k → f y = true → (fstP (setsL k) f).1 = y ∨ SetLt (fstP (setsL k) f).1 y := by
  have hlt := fstP_lt hk f
  unfold fstP at *
  cases hf : (setsL k).find? f with
  | none =>
    obtain ⟨y, hy, hy2⟩ := h
    have := List.find?_eq_none.1 hf y (setsL_mem hy)
    exact absurd hy2 this
  | some x =>
    rw [hf] at hlt
    obtain ⟨hx, ls, bs, e, hn⟩ := List.find?_eq_some_iff_append.1 hf
    refine ⟨hx, hlt, fun y hy hfy => ?_⟩
    have hm := setsL_mem hy
    have hp := setsL_pair k
    rw [e] at hm hp
    rcases List.mem_append.1 hm with h1 | h1
    · have := hn y h1; rw [hfy] at this; cases this
    · rcases List.mem_cons.1 h1 with h2 | h2
      · exact .inl h2.symm
      · exact .inr ((List.pairwise_cons.1 (List.pairwise_append.1 hp).2.1).1 y h2)
/-! ### how many must be false -/
def wrongB (x : Nat → Int) (c : PClaim) : Bool := !decide (x (ix c.a) < x (ix c.b) ↔ c.not = false)
theorem wrongB_iff (x : Nat → Int) (c : PClaim) : wrongB x c = true ↔ ¬ COk x c := by
  rw [cok_iff]; unfold wrongB
  by_cases h : x (ix c.a) < x (ix c.b) ↔ c.not = false
  · rw [decide_eq_true h]; simp [h]
  · rw [decide_eq_false h]; simp [h]
/-- how many claims are wrong -/
def wrongN (p : Post) (x : Nat → Int) : Nat := p.claims.countP (wrongB x)
/-- which claims of the first k are wrong -/
def wrongS (p : Post) (x : Nat → Int) : Nat := setTo (fun i => wrongB x (gt p.claims i)) p.claims.length
theorem wrong_bit {p : Post} {x : Nat → Int} {i : Nat} (h : i < p.claims.length) : wrongS p x / 2 ^ i % 2 = 1 ↔ ¬ COk x (gt p.claims i) := by
  unfold wrongS
  rw [setTo_bit _ _ _ h, wrongB_iff]
/-- bits of what is left -/
theorem left_bit : ∀ n, n < 9 → ∀ s : Nat, s < 2 ^ n → ∀ i, i < n → ((2 ^ n - 1 - s) / 2 ^ i % 2 = 1 ↔ ¬ s / 2 ^ i % 2 = 1) := of_decide_eq_true (by kernel_rfl)
theorem free_iff {p : Post} (hv : postB p = true) {s : Nat} (hs : s < 2 ^ p.claims.length) : freeB p s = true ↔ ∃ x, InP p x ∧ ∀ i, i < p.claims.length → wrongS p x / 2 ^ i % 2 = 1 → s / 2 ^ i % 2 = 1 := by
  have h8 := (post_num hv).2.2.1
  unfold freeB
  rw [far_ok (selA_in hv _).in]
  refine exists_congr fun x => ?_
  rw [sol_sel]
  refine and_congr_right fun _ => forall_congr' fun i => forall_congr' fun hi => ?_
  rw [wrong_bit hi, show everyS p - s = 2 ^ p.claims.length - 1 - s from rfl, left_bit _ (by omega) s hs i hi]
  constructor
  · intro h h1; exact Decidable.byContradiction fun h2 => h1 (h h2)
  · intro h h1; exact Classical.byContradiction fun h2 => h1 (h h2)
theorem clash_iff {p : Post} (hv : postB p = true) (s : Nat) : clashB p s = false ↔ ∃ x, Sol p (selA p s) x := by
  unfold clashB
  rw [← far_ok (selA_in hv _).in]
  cases farOk p (selA p s) <;> simp
theorem setTo_pop (f : Nat → Bool) : ∀ n, n ≤ 8 → pop (setTo f n) = (List.range n).countP f := by
  intro n hn
  have h : ∀ n, n ≤ 8 → ∀ m, m < 2 ^ n → pop (m + 2 ^ n) = pop m + 1 ∨ n = 8 := of_decide_eq_true (by kernel_rfl)
  induction n with
  | zero => simp [setTo, pop]
  | succ n ih =>
    rw [List.range_succ, List.countP_append]
    simp only [setTo, List.countP_cons, List.countP_nil]
    have := ih (by omega)
    have h2 := (h n (by omega) (setTo f n) (setTo_lt f n)).resolve_right (by omega)
    split <;> simp_all
theorem countP_gt {α : Type} [Inhabited α] (l : List α) (f : α → Bool) : (List.range l.length).countP (fun i => f (gt l i)) = l.countP f := by
  have e : (List.range l.length).map (fun i => gt l i) = l := by
    apply List.ext_getElem
    · simp
    · intro i h1 h2
      simp at h1
      simp [gt, List.getD, h1]
  conv => rhs; rw [← e]
  rw [List.countP_map]; rfl
theorem wrong_pop {p : Post} (hv : postB p = true) (x : Nat → Int) : pop (wrongS p x) = wrongN p x := by
  unfold wrongS wrongN
  rw [setTo_pop _ _ (post_num hv).2.2.1]
  exact countP_gt p.claims (wrongB x)
def falseS (p : Post) : Nat := (fstP (setsL p.claims.length) (freeB p)).1
def clashS (p : Post) : Nat := (fstP (setsL p.claims.length) (clashB p)).1
theorem inP_some {p : Post} (hv : postB p = true) : ∃ x, InP p x := by
  refine ⟨fun i => (placeN p i).lo, rfl, fun i hi => ?_⟩
  have := place_num hv hi
  exact ⟨Int.le_refl _, this.2.1⟩
theorem free_wrong {p : Post} (hv : postB p = true) {x : Nat → Int} (hx : InP p x) : freeB p (wrongS p x) = true :=
  (free_iff hv (setTo_lt _ _)).2 ⟨x, hx, fun _ _ h => h⟩
theorem false_at {p : Post} (hv : postB p = true) : freeB p (falseS p) = true ∧ falseS p < 2 ^ p.claims.length ∧ ∀ y, y < 2 ^ p.claims.length → freeB p y = true → falseS p = y ∨ SetLt (falseS p) y := by
  have h8 := (post_num hv).2.2.1
  obtain ⟨x, hx⟩ := inP_some hv
  exact first_of (by omega) ⟨_, setTo_lt _ _, free_wrong hv hx⟩
/-- of two sets below 2^8 one within the other has no more -/
theorem sub_pop8 {a b n : Nat} (h : ∀ i, i < n → a / 2 ^ i % 2 = 1 → b / 2 ^ i % 2 = 1) (hn : n ≤ 8) (ha : a < 2 ^ n) (hb : b < 2 ^ n) : pop a ≤ pop b := by
  have e : ∀ m, m < 2 ^ n → m = setTo (fun i => decide (m / 2 ^ i % 2 = 1)) n := by
    have : ∀ n, n ≤ 8 → ∀ m, m < 2 ^ n → m = setTo (fun i => decide (m / 2 ^ i % 2 = 1)) n := of_decide_eq_true (by kernel_rfl)
    exact this n hn
  rw [e a ha, e b hb, setTo_pop _ _ hn, setTo_pop _ _ hn]
  refine List.countP_mono_left fun i hi h1 => ?_
  have := List.mem_range.1 hi
  exact decide_eq_true (h i this (of_decide_eq_true h1))
theorem many_le {p : Post} (hv : postB p = true) {x : Nat → Int} (hx : InP p x) : pop (falseS p) ≤ wrongN p x := by
  rw [← wrong_pop hv]
  rcases (false_at hv).2.2 _ (setTo_lt _ _) (free_wrong hv hx) with h | h
  · exact Nat.le_of_eq (congrArg pop h)
  · have h2 : SetLt (falseS p) (wrongS p x) := h
    unfold SetLt at h2; rcases h2 with h2 | h2 <;> omega
theorem many_at {p : Post} (hv : postB p = true) : ∃ x, InP p x ∧ wrongN p x = pop (falseS p) := by
  obtain ⟨h1, h2, _⟩ := false_at hv
  obtain ⟨x, hx, h⟩ := (free_iff hv h2).1 h1
  refine ⟨x, hx, Nat.le_antisymm ?_ (many_le hv hx)⟩
  rw [← wrong_pop hv]
  exact sub_pop8 h (post_num hv).2.2.1 (setTo_lt _ _) h2
theorem false_out {p : Post} (hv : postB p = true) : FalseOut p = (((pop (falseS p) : Nat) : Int), ((falseS p : Nat) : Int), 0) := by
  unfold FalseOut; rw [if_neg (by rw [hv]; simp)]; rfl
theorem clash_out {p : Post} (hv : postB p = true) (hok : okA p = false) : ClashOut p = (((clashS p : Nat) : Int), 0) := by
  unfold ClashOut; rw [if_neg (by rw [hv]; simp), if_neg (by rw [hok]; simp)]; rfl
theorem clash_none {p : Post} (hv : postB p = true) (hok : okA p = true) : ClashOut p = (0, 4) := by
  unfold ClashOut; rw [if_neg (by rw [hv]; simp), if_pos hok]
theorem ok_wrong {p : Post} (hv : postB p = true) : okA p = true ↔ ∃ x, InP p x ∧ wrongN p x = 0 := by
  rw [ok_iff hv]
  refine exists_congr fun x => ?_
  rw [sol_all]
  refine and_congr_right fun _ => ?_
  unfold wrongN
  rw [List.countP_eq_zero]
  refine forall_congr' fun c => forall_congr' fun _ => ?_
  rw [wrongB_iff]
  exact ⟨fun h h1 => h1 h, fun h => Classical.byContradiction h⟩
theorem ok_many {p : Post} (hv : postB p = true) : okA p = true ↔ pop (falseS p) = 0 := by
  rw [ok_wrong hv]
  constructor
  · rintro ⟨x, hx, h⟩; have := many_le hv hx; omega
  · intro h
    obtain ⟨x, hx, e⟩ := many_at hv
    exact ⟨x, hx, by omega⟩
end Go.Proofs.Ytkhmmefgllbobaa
