import Derived.Test.YtkhmmefgllbobaaXZG
import Derived.Test.YtkhmmefgllbobaaXZA
set_option linter.unusedSimpArgs false
set_option linter.unusedVariables false
set_option linter.all false
set_option maxRecDepth 100000
set_option maxHeartbeats 1000000
/- All truths, one after the other, as the document finds them. No program in sight. -/
namespace Go.Proofs.Ytkhmmefgllbobaa
open Go.W Go.Po
def fnOf (b : List Int) (i : Nat) : Int := if i = 0 then 0 else gt b (i - 1)
theorem fnOf_ix {b : List Int} {n : Int} (h : -1 ≤ n) : fnOf b (ix n) = gt b (n + 1).toNat := by
  unfold fnOf ix
  rw [if_neg (by omega)]
  congr 1; omega
def RightB (b : List Int) (c : PClaim) : Bool := decide (gt b (c.a + 1).toNat < gt b (c.b + 1).toNat) != c.not
/-- nothing that a claim of the set says of those who have a place is wrong -/
def okB (p : Post) (s : Nat) (b : List Int) (i : Nat) : Bool := !(decide (((s / 2 ^ i % 2 : Nat) : Int) = 1) && decide ((gt p.claims i).a + 1 < (b.length : Int)) && decide ((gt p.claims i).b + 1 < (b.length : Int)) && !RightB b (gt p.claims i))
def rightB (p : Post) (s : Nat) (b : List Int) : Bool := (List.range p.claims.length).all (okB p s b)
def spanAt (p : Post) (m : Nat) : Sp := placeN p (m + 1)
def wide (p : Post) (m : Nat) : Nat := ((spanAt p m).hi - (spanAt p m).lo + 1).toNat
def truC (p : Post) (s : Nat) : Nat → List Int → List (List Int)
  | 0, b => if rightB p s b = true then [b] else []
  | rem + 1, b => if rightB p s b = true then (List.range (wide p b.length)).flatMap fun (i : Nat) => truC p s rem (b ++ [(spanAt p b.length).lo + (i : Int)]) else []
def accT (p : Post) (s rem : Nat) (b : List Int) (L : List (List Int)) (k : Nat) : List (List Int) := L ++ (List.range k).flatMap fun (i : Nat) => truC p s rem (b ++ [(spanAt p b.length).lo + (i : Int)])
theorem accT_zero (p : Post) (s rem : Nat) (b : List Int) (L : List (List Int)) : accT p s rem b L 0 = L := by simp [accT]
theorem accT_succ (p : Post) (s rem : Nat) (b : List Int) (L : List (List Int)) (k : Nat) : accT p s rem b L (k + 1) = accT p s rem b L k ++ truC p s rem (b ++ [(spanAt p b.length).lo + (k : Int)]) := by
  simp [accT, List.range_succ, List.append_assoc]
theorem gt_app_lt {α : Type} [Inhabited α] (a b : List α) {i : Nat} (h : i < a.length) : gt (a ++ b) i = gt a i := by
  unfold gt List.getD; rw [List.getElem?_append_left h]
theorem claim_num {p : Post} (hv : postB p = true) {i : Nat} (hi : i < p.claims.length) : whoP p (gt p.claims i).a = true ∧ whoP p (gt p.claims i).b = true := by
  have := (postB_iff p).1 hv |>.2.2.2.2 i hi
  simpa [claimP] using this
theorem okB_iff {p : Post} {s : Nat} {b : List Int} {i : Nat} : okB p s b i = true ↔ (s / 2 ^ i % 2 = 1 → (gt p.claims i).a + 1 < (b.length : Int) → (gt p.claims i).b + 1 < (b.length : Int) → RightB b (gt p.claims i) = true) := by
  unfold okB
  have hd : decide (((s / 2 ^ i % 2 : Nat) : Int) = 1) = decide (s / 2 ^ i % 2 = 1) := decide_eq_decide.2 nat_one
  rw [hd]
  generalize (gt p.claims i).a + 1 = u
  generalize (gt p.claims i).b + 1 = v
  generalize RightB b (gt p.claims i) = r
  by_cases h1 : s / 2 ^ i % 2 = 1 <;> by_cases h2 : u < (b.length : Int) <;> by_cases h3 : v < (b.length : Int) <;> cases r <;> simp [h1, h2, h3]
theorem rightB_iff {p : Post} {s : Nat} {b : List Int} : rightB p s b = true ↔ ∀ i, i < p.claims.length → okB p s b i = true := by
  unfold rightB
  rw [List.all_eq_true]
  exact ⟨fun h i hi => h i (List.mem_range.2 hi), fun h i hi => h i (List.mem_range.1 hi)⟩
theorem rightB_prefix {p : Post} (hv : postB p = true) {s : Nat} {b c : List Int} (h : rightB p s (b ++ c) = true) : rightB p s b = true := by
  rw [rightB_iff] at h ⊢
  intro i hi
  have h1 := okB_iff.1 (h i hi)
  obtain ⟨ha, hb⟩ := claim_num hv hi
  have ha := of_decide_eq_true ha
  have hb := of_decide_eq_true hb
  refine okB_iff.2 fun g1 g2 g3 => ?_
  have h2 := h1 g1 (by rw [List.length_append]; omega) (by rw [List.length_append]; omega)
  unfold RightB at h2 ⊢
  rwa [gt_app_lt _ _ (by omega), gt_app_lt _ _ (by omega)] at h2
theorem tr_mem {p : Post} (hv : postB p = true) (s : Nat) : ∀ (rem : Nat) (b x : List Int), x ∈ truC p s rem b ↔ ∃ c, x = b ++ c ∧ c.length = rem ∧ (∀ i, i < rem → (spanAt p (b.length + i)).lo ≤ gt c i ∧ gt c i ≤ (spanAt p (b.length + i)).hi) ∧ rightB p s x = true := by
  intro rem
  induction rem with
  | zero =>
    intro b x
    simp only [truC]
    constructor
    · intro h
      split at h
      · rename_i hr
        rw [List.mem_singleton.1 h]
        exact ⟨[], by simp, rfl, fun i hi => absurd hi (by omega), hr⟩
      · cases h
    · rintro ⟨c, rfl, hc, _, hr⟩
      obtain rfl := List.length_eq_zero_iff.1 hc
      rw [List.append_nil] at hr ⊢
      rw [if_pos hr]; exact List.mem_singleton.2 rfl
  | succ rem ih =>
    intro b x
    simp only [truC]
    constructor
    · intro h
      split at h
      · obtain ⟨i, hi, hx⟩ := List.mem_flatMap.1 h
        have hi := List.mem_range.1 hi
        obtain ⟨c, rfl, hc, hp, hr⟩ := (ih _ _).1 hx
        refine ⟨((spanAt p b.length).lo + (i : Int)) :: c, by simp, by simp [hc], fun j hj => ?_, hr⟩
        match j with
        | 0 =>
          have e0 : gt (((spanAt p b.length).lo + (i : Int)) :: c) 0 = (spanAt p b.length).lo + (i : Int) := rfl
          unfold wide at hi
          rw [Nat.add_zero, e0]; omega
        | j + 1 =>
          have := hp j (by omega)
          rw [List.length_append, List.length_singleton] at this
          rw [show b.length + (j + 1) = b.length + 1 + j by omega]
          exact this
      · cases h
    · rintro ⟨c, rfl, hc, hp, hr⟩
      rw [if_pos (rightB_prefix hv hr)]
      match c, hc with
      | v :: c, hc =>
        have h0 := hp 0 (by omega)
        rw [Nat.add_zero] at h0
        have h0 : (spanAt p b.length).lo ≤ v ∧ v ≤ (spanAt p b.length).hi := h0
        have ev : (spanAt p b.length).lo + ((v - (spanAt p b.length).lo).toNat : Int) = v := by omega
        refine List.mem_flatMap.2 ⟨(v - (spanAt p b.length).lo).toNat, List.mem_range.2 (by unfold wide; omega), (ih _ _).2 ⟨c, by rw [ev]; simp, by simpa using hc, fun j hj => ?_, hr⟩⟩
        have := hp (j + 1) (by omega)
        rw [List.length_append, List.length_singleton, show b.length + 1 + j = b.length + (j + 1) by omega]
        exact this
theorem rightB_cok {p : Post} (hv : postB p = true) {s : Nat} {x : List Int} (hl : x.length = p.bathers.length + 1) : rightB p s x = true ↔ ∀ i, i < p.claims.length → s / 2 ^ i % 2 = 1 → COk (fnOf x) (gt p.claims i) := by
  rw [rightB_iff]
  refine forall_congr' fun i => forall_congr' fun hi => ?_
  obtain ⟨ha, hb⟩ := claim_num hv hi
  have ha := of_decide_eq_true ha
  have hb := of_decide_eq_true hb
  rw [okB_iff, cok_iff, fnOf_ix ha.1, fnOf_ix hb.1]
  have e : RightB x (gt p.claims i) = true ↔ (gt x ((gt p.claims i).a + 1).toNat < gt x ((gt p.claims i).b + 1).toNat ↔ (gt p.claims i).not = false) := by
    unfold RightB
    by_cases h1 : gt x ((gt p.claims i).a + 1).toNat < gt x ((gt p.claims i).b + 1).toNat <;> cases (gt p.claims i).not <;> simp [h1]
  rw [e]
  exact ⟨fun h g => h g (by omega) (by omega), fun h g _ _ => h g⟩
theorem tr_sol {p : Post} (hv : postB p = true) (s : Nat) (x : List Int) : x ∈ truC p s (p.bathers.length + 1) [] ↔ x.length = p.bathers.length + 1 ∧ Sol p (selA p s) (fnOf x) := by
  rw [tr_mem hv, sol_sel]
  constructor
  · rintro ⟨c, rfl, hc, hp, hr⟩
    refine ⟨hc, ⟨rfl, fun i hi => ?_⟩, (rightB_cok hv hc).1 hr⟩
    match i with
    | 0 => exact ⟨Int.le_refl _, Int.le_refl _⟩
    | i + 1 =>
      have := hp i (by unfold nodes at hi; omega)
      rw [List.length_nil, Nat.zero_add] at this
      exact this
  · rintro ⟨hl, ⟨_, hp⟩, hr⟩
    refine ⟨x, by simp, hl, fun i hi => ?_, (rightB_cok hv hl).2 hr⟩
    rw [List.length_nil, Nat.zero_add]
    exact hp (i + 1) (by unfold nodes; omega)
def listOf (p : Post) (y : Nat → Int) : List Int := (List.range (p.bathers.length + 1)).map fun i => y (i + 1)
theorem listOf_fn {p : Post} {y : Nat → Int} (h0 : y 0 = 0) {i : Nat} (hi : i < nodes p) : fnOf (listOf p y) i = y i := by
  unfold fnOf
  split
  · rename_i h; rw [h, h0]
  · unfold listOf
    have hi' : i - 1 < p.bathers.length + 1 := by unfold nodes at hi; omega
    rw [show gt ((List.range (p.bathers.length + 1)).map fun i => y (i + 1)) (i - 1) = y (i - 1 + 1) by simp [gt, List.getD, hi']]
    congr 1; omega
theorem sol_congr {p : Post} (hv : postB p = true) {s : Nat} {y z : Nat → Int} (h : ∀ i, i < nodes p → z i = y i) (hy : Sol p (selA p s) y) : Sol p (selA p s) z := by
  rw [sol_sel] at hy ⊢
  obtain ⟨⟨h0, h1⟩, h2⟩ := hy
  have hn : 0 < nodes p := by unfold nodes; omega
  refine ⟨⟨by rw [h 0 hn, h0], fun i hi => by rw [h i hi]; exact h1 i hi⟩, fun i hi hb => ?_⟩
  obtain ⟨ha, hb2⟩ := claim_num hv hi
  have := h2 i hi hb
  rw [cok_iff] at this ⊢
  rw [h _ (ix_who ha).1, h _ (ix_who hb2).1]
  exact this
theorem tr_of {p : Post} (hv : postB p = true) {s : Nat} {y : Nat → Int} (hy : Sol p (selA p s) y) : listOf p y ∈ truC p s (p.bathers.length + 1) [] :=
  (tr_sol hv s _).2 ⟨by simp [listOf], sol_congr hv (fun i hi => listOf_fn hy.zero hi) hy⟩
theorem tr_can {p : Post} (hv : postB p = true) (s : Nat) : decide (((truC p s (p.bathers.length + 1) []).length : Int) > 0) = farOk p (selA p s) := by
  rw [Bool.eq_iff_iff, decide_eq_true_eq, far_ok (selA_in hv s).in]
  constructor
  · intro h
    have : 0 < (truC p s (p.bathers.length + 1) []).length := by omega
    obtain ⟨x, hx⟩ := List.exists_mem_of_length_pos this
    exact ⟨_, ((tr_sol hv s x).1 hx).2⟩
  · rintro ⟨y, hy⟩
    have := List.length_pos_of_mem (tr_of hv hy)
    omega
theorem flat_le {α β : Type} (f : α → List β) (m : Nat) : ∀ (l : List α), (∀ x ∈ l, (f x).length ≤ m) → (l.flatMap f).length ≤ l.length * m := by
  intro l
  induction l with
  | nil => intro _; simp
  | cons x l ih =>
    intro h
    rw [List.flatMap_cons, List.length_append, List.length_cons, Nat.succ_mul]
    have := h x (by simp)
    have := ih fun y hy => h y (by simp [hy])
    omega
theorem wide_le {p : Post} (hv : postB p = true) {m : Nat} (hm : m ≤ p.bathers.length) : wide p m ≤ 41 := by
  have := place_num hv (i := m + 1) (by unfold nodes; omega)
  unfold wide spanAt; omega
theorem tr_le {p : Post} (hv : postB p = true) (s : Nat) : ∀ (rem : Nat) (b : List Int), b.length + rem ≤ p.bathers.length + 1 → (truC p s rem b).length ≤ 41 ^ rem := by
  intro rem
  induction rem with
  | zero => intro b _; simp only [truC]; split <;> simp
  | succ rem ih =>
    intro b hb
    simp only [truC]
    split
    · refine Nat.le_trans (flat_le _ (41 ^ rem) _ fun k _ => ih _ (by rw [List.length_append, List.length_singleton]; omega)) ?_
      rw [List.length_range, Nat.pow_succ, Nat.mul_comm]
      exact Nat.mul_le_mul_left _ (wide_le hv (by omega))
    · exact Nat.zero_le _
theorem accT_le {p : Post} (hv : postB p = true) (s rem : Nat) (b : List Int) (L : List (List Int)) {k m : Nat} (hb : b.length + (rem + 1) ≤ p.bathers.length + 1) (hk : k < wide p b.length) (hL : L.length + 41 ^ (rem + 1) ≤ m) : (accT p s rem b L k).length + 41 ^ rem ≤ m := by
  unfold accT
  rw [List.length_append]
  have h1 := flat_le (fun i : Nat => truC p s rem (b ++ [(spanAt p b.length).lo + (i : Int)])) (41 ^ rem) (List.range k) fun i _ => tr_le hv s rem _ (by rw [List.length_append, List.length_singleton]; omega)
  rw [List.length_range] at h1
  have h2 := wide_le hv (m := b.length) (by omega)
  have h3 : (k + 1) * 41 ^ rem ≤ 41 * 41 ^ rem := Nat.mul_le_mul_right _ (by omega)
  rw [Nat.succ_mul] at h3
  rw [Nat.pow_succ, Nat.mul_comm] at hL
  omega
/-! ### what is told by all truths -/
def T (p : Post) : List (List Int) := truC p (everyS p) (p.bathers.length + 1) []
theorem T_mem {p : Post} (hv : postB p = true) {x : List Int} : x ∈ T p ↔ x.length = p.bathers.length + 1 ∧ Sol p (allR p) (fnOf x) := tr_sol hv _ x
theorem T_of {p : Post} (hv : postB p = true) {y : Nat → Int} (hy : Sol p (allR p) y) : listOf p y ∈ T p ∧ ∀ a, whoP p a = true → gt (listOf p y) (a + 1).toNat = y (ix a) :=
  ⟨tr_of hv hy, fun a ha => by rw [← fnOf_ix (of_decide_eq_true ha).1, listOf_fn hy.zero (ix_who ha).1]⟩
theorem T_ok {p : Post} (hv : postB p = true) : okA p = decide (((T p).length : Int) > 0) := (tr_can hv _).symm
theorem T_pos {p : Post} (hv : postB p = true) (hok : okA p = true) : 0 < (T p).length := by
  rw [T_ok hv] at hok; have := of_decide_eq_true hok; omega
theorem hull_eq {l : List Int} {lo hi : Int} (h : ∀ v, v ∈ l → lo ≤ v ∧ v ≤ hi) (h1 : lo ∈ l) (h2 : hi ∈ l) : minTo l l.length = lo ∧ maxTo l l.length = hi := by
  have hp := List.length_pos_of_mem h1
  obtain ⟨i, hi', ei⟩ := minTo_mem l _ hp
  obtain ⟨j, hj', ej⟩ := maxTo_mem l _ hp
  have a1 := h _ (gt_mem hi')
  have a2 := h _ (gt_mem hj')
  obtain ⟨k, hk, ek⟩ := List.getElem_of_mem h1
  obtain ⟨m, hm, em⟩ := List.getElem_of_mem h2
  have b1 := minTo_le l _ k hk
  have b2 := le_maxTo l _ m hm
  rw [show gt l k = lo by rw [← ek]; simp [gt, List.getD, hk]] at b1
  rw [show gt l m = hi by rw [← em]; simp [gt, List.getD, hm]] at b2
  omega
def plcL (p : Post) (n : Int) : List Int := (T p).map fun x => gt x (n + 1).toNat
def nrL (p : Post) (a b : Int) : List Int := (T p).map fun x => max (gt x (a + 1).toNat - gt x (b + 1).toNat) (-(gt x (a + 1).toNat - gt x (b + 1).toNat))
theorem plc_hull {p : Post} (hv : postB p = true) (hok : okA p = true) {n : Int} (hn : whoP p n = true) : minTo (plcL p n) (plcL p n).length = -GA p (ix n) 0 ∧ maxTo (plcL p n) (plcL p n).length = GA p 0 (ix n) := by
  have hle := (own_in hv hok hn).1
  have key : ∀ v, v ∈ plcL p n ↔ (-GA p (ix n) 0 ≤ v ∧ v ≤ GA p 0 (ix n)) := fun v => by
    rw [place_in hv hok hn]
    constructor
    · intro h
      obtain ⟨x, hx, rfl⟩ := List.mem_map.1 h
      exact ⟨_, ((T_mem hv).1 hx).2, fnOf_ix (of_decide_eq_true hn).1⟩
    · rintro ⟨y, hy, rfl⟩
      obtain ⟨h1, h2⟩ := T_of hv hy
      exact List.mem_map.2 ⟨_, h1, h2 n hn⟩
  exact hull_eq (fun v hv => (key v).1 hv) ((key _).2 ⟨Int.le_refl _, hle⟩) ((key _).2 ⟨hle, Int.le_refl _⟩)
theorem nr_hull {p : Post} (hv : postB p = true) (hok : okA p = true) {a b : Int} (ha : whoP p a = true) (hb : whoP p b = true) : minTo (nrL p a b) (nrL p a b).length = (nearG p a b).lo ∧ maxTo (nrL p a b) (nrL p a b).length = (nearG p a b).hi := by
  have hle := (near_ends hv hok ha hb).2.1
  have key : ∀ v, v ∈ nrL p a b ↔ ((nearG p a b).lo ≤ v ∧ v ≤ (nearG p a b).hi) := fun v => by
    rw [near_is hv hok ha hb]
    constructor
    · intro h
      obtain ⟨x, hx, rfl⟩ := List.mem_map.1 h
      refine ⟨_, ((T_mem hv).1 hx).2, ?_⟩
      rw [fnOf_ix (of_decide_eq_true ha).1, fnOf_ix (of_decide_eq_true hb).1]; omega
    · rintro ⟨y, hy, rfl⟩
      obtain ⟨h1, h2⟩ := T_of hv hy
      refine List.mem_map.2 ⟨_, h1, ?_⟩
      rw [h2 a ha, h2 b hb]; omega
  exact hull_eq (fun v hv => (key v).1 hv) ((key _).2 ⟨Int.le_refl _, hle⟩) ((key _).2 ⟨hle, Int.le_refl _⟩)
def gradeR (n all : Int) : Int := if n = all then 2 else if n = 0 then 0 else 1
def befB (a b : Int) (x : List Int) : Bool := decide (gt x (a + 1).toNat < gt x (b + 1).toNat)
theorem grade_eq {l : List (List Int)} (hl : 0 < l.length) {f : List Int → Bool} {g : Int} (hg : g = 0 ∨ g = 1 ∨ g = 2) (h2 : g = 2 ↔ ∀ x ∈ l, f x = true) (h0 : g = 0 ↔ ∀ x ∈ l, f x = false) : gradeR ((l.countP f : Nat) : Int) (l.length : Int) = g := by
  unfold gradeR
  split
  · rename_i h
    have : ∀ x ∈ l, f x = true := List.countP_eq_length.1 (by omega)
    rw [h2.2 this]
  · rename_i h
    have hn2 : ¬ g = 2 := fun e => h (by rw [List.countP_eq_length.2 (h2.1 e)])
    split
    · rename_i h'
      have : ∀ x ∈ l, ¬ f x = true := List.countP_eq_zero.1 (by omega)
      rw [h0.2 (fun x hx => by simpa using this x hx)]
    · rename_i h'
      have hn0 : ¬ g = 0 := fun e => h' (by
        have : l.countP f = 0 := List.countP_eq_zero.2 (fun x hx => by rw [h0.1 e x hx]; simp)
        omega)
      omega
theorem bef_grade {p : Post} (hv : postB p = true) (hok : okA p = true) {a b : Int} (ha : whoP p a = true) (hb : whoP p b = true) : gradeR (((T p).countP (befB a b) : Nat) : Int) ((T p).length : Int) = befG p a b := by
  have hg : befG p a b = 0 ∨ befG p a b = 1 ∨ befG p a b = 2 := by
    unfold befG gradeI
    split
    · exact .inr (.inr rfl)
    · split
      · exact .inl rfl
      · exact .inr (.inl rfl)
  have h1 : ∀ x ∈ T p, befB a b x = decide (fnOf x (ix a) < fnOf x (ix b)) := fun x _ => by
    unfold befB; rw [fnOf_ix (of_decide_eq_true ha).1, fnOf_ix (of_decide_eq_true hb).1]
  refine grade_eq (T_pos hv hok) hg ?_ ?_
  · rw [bef_is2 hv hok ha hb]
    constructor
    · intro h x hx
      rw [h1 x hx]
      exact decide_eq_true (Classical.byContradiction fun hn => h ⟨_, ((T_mem hv).1 hx).2, hn⟩)
    · rintro h ⟨y, hy, hn⟩
      obtain ⟨g1, g2⟩ := T_of hv hy
      have := of_decide_eq_true (h _ g1)
      rw [g2 a ha, g2 b hb] at this
      exact hn this
  · rw [bef_is0 hv hok ha hb]
    constructor
    · intro h x hx
      rw [h1 x hx]
      exact decide_eq_false fun hn => h ⟨_, ((T_mem hv).1 hx).2, hn⟩
    · rintro h ⟨y, hy, hn⟩
      obtain ⟨g1, g2⟩ := T_of hv hy
      have := of_decide_eq_false (h _ g1)
      rw [g2 a ha, g2 b hb] at this
      exact this hn
/-! ### who breaks it -/
def breakB (p : Post) (x : List Int) (i : Nat) : Bool := decide (gt x ((i : Int) + 1).toNat < gt x 0) != (gt p.bathers i).lady
theorem break_brk {p : Post} {x : List Int} (i : Nat) : breakB p x i = decide (Brk p (fnOf x) i) := by
  have e : fnOf x (i + 2) = gt x ((i : Int) + 1).toNat := by
    unfold fnOf; rw [if_neg (by omega)]; congr 1
  refine (brk_of (p := p) (x := fnOf x) (k := i) (u := gt x ((i : Int) + 1).toNat) (v := gt x 0) e.symm rfl ?_).symm
  rfl
def manyB (p : Post) (x : List Int) (k : Nat) : Nat := (List.range k).countP (breakB p x)
theorem many_pop {p : Post} (hv : postB p = true) (x : List Int) : manyB p x p.bathers.length = pop (brS p (fnOf x)) := by
  unfold manyB brS
  rw [setTo_pop _ _ (by have := (post_num hv).2.1; omega)]
  exact List.countP_congr fun i _ => by rw [break_brk]
theorem manyB_succ (p : Post) (x : List Int) (k : Nat) : manyB p x (k + 1) = manyB p x k + if breakB p x k = true then 1 else 0 := by
  unfold manyB
  rw [List.range_succ, List.countP_append]
  simp only [List.countP_cons, List.countP_nil]
  split <;> simp_all
def mnL (p : Post) : List Int := (T p).map fun x => ((manyB p x p.bathers.length : Nat) : Int)
theorem setTo_congr {f g : Nat → Bool} : ∀ n, (∀ i, i < n → f i = g i) → setTo f n = setTo g n := by
  intro n
  induction n with
  | zero => intro _; rfl
  | succ n ih => intro h; simp only [setTo]; rw [h n (by omega), ih fun i hi => h i (by omega)]
theorem brk_congr {p : Post} {y z : Nat → Int} (h : ∀ i, i < nodes p → z i = y i) : brS p z = brS p y := by
  unfold brS
  refine setTo_congr _ fun i hi => decide_eq_decide.2 ?_
  unfold Brk
  rw [h (i + 2) (by unfold nodes; omega), h 1 (by unfold nodes; omega)]
theorem mn_mem {p : Post} (hv : postB p = true) (v : Int) : v ∈ mnL p ↔ v ∈ brokeL p := by
  constructor
  · intro h
    obtain ⟨x, hx, rfl⟩ := List.mem_map.1 h
    rw [many_pop hv]
    exact brk_mem hv ((T_mem hv).1 hx).2
  · intro h
    obtain ⟨y, hy, rfl⟩ := mem_brk hv h
    refine List.mem_map.2 ⟨_, (T_of hv hy).1, ?_⟩
    rw [many_pop hv, brk_congr (fun i hi => listOf_fn hy.zero hi)]
theorem mn_hull {p : Post} (hv : postB p = true) (hok : okA p = true) : minTo (mnL p) (mnL p).length = loF p ∧ maxTo (mnL p) (mnL p).length = hiF p :=
  hull_eq (fun v h => ⟨lo_le ((mn_mem hv v).1 h), le_hi ((mn_mem hv v).1 h)⟩) ((mn_mem hv _).2 (lo_mem hv hok)) ((mn_mem hv _).2 (hi_mem hv hok))
def keptB (p : Post) (x : List Int) : Bool := decide (((manyB p x p.bathers.length : Nat) : Int) = 0)
theorem kept_grade {p : Post} (hv : postB p = true) (hok : okA p = true) : gradeR (((T p).countP (keptB p) : Nat) : Int) ((T p).length : Int) = keptG p := by
  have hg : keptG p = 0 ∨ keptG p = 1 ∨ keptG p = 2 := by
    unfold keptG gradeI
    split
    · exact .inr (.inr rfl)
    · split
      · exact .inl rfl
      · exact .inr (.inl rfl)
  have hin : ∀ x ∈ T p, ((manyB p x p.bathers.length : Nat) : Int) ∈ brokeL p := fun x hx => (mn_mem hv _).1 (List.mem_map.2 ⟨x, hx, rfl⟩)
  have hof : ∀ v, v ∈ brokeL p → ∃ x ∈ T p, ((manyB p x p.bathers.length : Nat) : Int) = v := fun v h => by
    obtain ⟨x, hx, e⟩ := List.mem_map.1 ((mn_mem hv v).2 h); exact ⟨x, hx, e⟩
  refine grade_eq (T_pos hv hok) hg ?_ ?_
  · rw [kept_two hv hok]
    constructor
    · intro h x hx
      have := le_hi (hin x hx)
      exact decide_eq_true (by omega)
    · intro h
      obtain ⟨x, hx, e⟩ := hof _ (hi_mem hv hok)
      have := of_decide_eq_true (h x hx)
      omega
  · rw [kept_zero hv hok]
    constructor
    · intro h x hx
      have := lo_le (hin x hx)
      exact decide_eq_false (by omega)
    · intro h
      obtain ⟨x, hx, e⟩ := hof _ (lo_mem hv hok)
      have := of_decide_eq_false (h x hx)
      have := broke_nn hv (lo_mem hv hok)
      omega
def brN (p : Post) (i : Nat) : Nat := (T p).countP fun x => breakB p x i
theorem all_ref {p : Post} (hv : postB p = true) {i : Nat} (hi : i < p.bathers.length) : decide (((brN p i : Nat) : Int) = ((T p).length : Int)) = !canBreak p i false := by
  have h := can_iff hv hi false
  rw [Bool.eq_iff_iff, decide_eq_true_eq]
  constructor
  · intro e
    have h1 := List.countP_eq_length.1 (show (T p).countP (fun x => breakB p x i) = (T p).length by unfold brN at e; omega)
    cases hc : canBreak p i false with
    | false => rfl
    | true =>
      obtain ⟨y, hy, hb⟩ := h.1 hc
      have := h1 _ (T_of hv hy).1
      rw [break_brk] at this
      have hb2 := of_decide_eq_true this
      have e1 := listOf_fn hy.zero (p := p) (i := i + 2) (by unfold nodes; omega)
      have e2 := listOf_fn hy.zero (p := p) (i := 1) (by unfold nodes; omega)
      unfold Brk at hb2 hb
      rw [e1, e2] at hb2
      exact absurd (hb.1 hb2) (by simp)
  · intro e
    have : (T p).countP (fun x => breakB p x i) = (T p).length := List.countP_eq_length.2 fun x hx => by
      rw [break_brk]
      refine decide_eq_true (Classical.byContradiction fun hn => ?_)
      have := h.2 ⟨_, ((T_mem hv).1 hx).2, by simp [hn]⟩
      rw [this] at e; cases e
    unfold brN; omega
theorem some_ref {p : Post} (hv : postB p = true) {i : Nat} (hi : i < p.bathers.length) : decide (((brN p i : Nat) : Int) > 0) = canBreak p i true := by
  rw [Bool.eq_iff_iff, decide_eq_true_eq, can_iff hv hi true]
  constructor
  · intro e
    have : 0 < (T p).countP (fun x => breakB p x i) := by unfold brN at e; omega
    obtain ⟨x, hx, hb⟩ := List.countP_pos_iff.1 this
    rw [break_brk] at hb
    exact ⟨_, ((T_mem hv).1 hx).2, by simpa using of_decide_eq_true hb⟩
  · rintro ⟨y, hy, hb⟩
    have hb := hb.2 rfl
    have : 0 < (T p).countP (fun x => breakB p x i) := List.countP_pos_iff.2 ⟨_, (T_of hv hy).1, by
      rw [break_brk]
      have e1 := listOf_fn hy.zero (p := p) (i := i + 2) (by unfold nodes; omega)
      have e2 := listOf_fn hy.zero (p := p) (i := 1) (by unfold nodes; omega)
      refine decide_eq_true ?_
      unfold Brk at hb ⊢
      rw [e1, e2]; exact hb⟩
    unfold brN; omega
end Go.Proofs.Ytkhmmefgllbobaa
namespace Go.Proofs.Ytkhmmefgllbobaa
open Go.W Go.Po

theorem power_g (n : Nat) (w : World) (hn : n ≤ 60) : Gives Try.prog 66 [nt n] w (nt (2 ^ n)) := by
  unfold Gives
  refine enter Try.func66 rfl 13 Try.ntmps66 (Nat.le_of_ble_eq_true rfl) (Inv.start (D := fun _ => none) (by intro _ _ h; cases h)) ?_
  refine WC.seq ?_
  refine WC.ofFr [(0, _)] ⟨rfl, trivial⟩ ?_
  refine WC.region ?_
  refine WL.yd (Yd.assign rfl) rfl ?_
  refine WL.nil ?_
  refine WP.thenC ?_
  refine WC.seq ?_
  refine WC.ofFr [(2, _), (0, _)] ⟨rfl, rfl, trivial⟩ ?_
  refine WC.region ?_
  refine WL.yd (Yd.assign rfl) rfl ?_
  refine WL.nil ?_
  refine WP.thenC ?_
  refine WC.seq ?_
  refine WC.seq ?_
  refine WC.ofFr [(3, _), (2, _), (0, _)] ⟨rfl, rfl, rfl, trivial⟩ ?_
  refine WC.region ?_
  refine WL.yd (Yd.assign rfl) rfl ?_
  refine WL.nil ?_
  refine WP.thenC ?_
  refine WC.block ?_
  refine WC.loopF (fun k : Nat => [(0, nt n), (3, nt (2 ^ k)), (4, nt k)]) (fun k => k ≤ n) (fun k => n - k) 0 (by omega) (by exact ⟨rfl, rfl, rfl, trivial⟩) ?_
  intro k hk
  have hb : ((2 ^ k : Nat) : Int) ≤ ((2 ^ 60 : Nat) : Int) := by exact_mod_cast Nat.pow_le_pow_right (by omega) (by omega)
  have hb0 : (0 : Int) ≤ ((2 ^ k : Nat) : Int) := Int.natCast_nonneg _
  have hb' : ((2 ^ 60 : Nat) : Int) = 1152921504606846976 := by decide
  refine WC.seq ?_
  refine WC.seq ?_
  refine WC.ofFr [(0, _), (3, _), (4, _)] ⟨rfl, rfl, rfl, trivial⟩ ?_
  refine WC.region ?_
  refine WL.yd (Yd.move rfl) rfl ?_
  refine WL.yd (Yd.move rfl) rfl ?_
  refine WL.yd (Yd.lss rfl rfl) rfl ?_
  refine WL.nil ?_
  refine WP.thenC ?_
  refine WC.cond rfl (fun c7 => ?_) (fun c7 => ?_)
  · try simp only [zq1, zq2, zq3, zq4, zq5, zq6, zq7, zq8] at c7
    refine WC.skip ?_
    refine WP.thenC ?_
    refine WC.seq ?_
    refine WC.block ?_
    refine WC.ofFr [(0, _), (3, _), (4, _)] ⟨rfl, rfl, rfl, trivial⟩ ?_
    refine WC.region ?_
    refine WL.yd (Yd.move rfl) rfl ?_
    refine WL.yd (Yd.mul rfl rfl (wr64 ⟨by omega, by omega⟩)) rfl ?_
    refine WL.yd (Yd.assign rfl) rfl ?_
    refine WL.nil ?_
    refine WP.blkNormal ?_
    refine WP.thenC ?_
    refine WC.ofFr [(3, _), (0, _), (4, _)] ⟨rfl, rfl, rfl, trivial⟩ ?_
    refine WC.region ?_
    refine WL.yd (Yd.move rfl) rfl ?_
    refine WL.yd (Yd.add rfl rfl (wr64 ⟨by omega, by omega⟩)) rfl ?_
    refine WL.yd (Yd.assign rfl) rfl ?_
    refine WL.nil ?_
    exact WP.againF (k + 1) (by omega) (by omega) ⟨rfl, by rw [show nt (2 ^ (k + 1)) = it (2 * ((2 ^ k : Nat) : Int)) from by simp only [nt, it, Nat.pow_succ]; congr 1; push_cast; omega]; rfl, rfl, trivial⟩ (fun _ h => h) (fun h => h)
  · try simp only [zq1, zq2, zq3, zq4, zq5, zq6, zq7, zq8] at c7
    refine WC.exit ?_
    refine WP.thenExit ?_
    refine WP.thenExit ?_
    refine WP.blkHit ?_
    refine WP.thenC ?_
    refine WC.seq ?_
    refine WC.ofFr [(3, _)] ⟨rfl, trivial⟩ ?_
    refine WC.region ?_
    refine WL.yd (Yd.move rfl) rfl ?_
    refine WL.yd (Yd.assign rfl) rfl ?_
    refine WL.nil ?_
    refine WP.thenC ?_
    refine WC.ret ?_
    refine WP.ret1 rfl rfl Try.results66 (RV.tmp rfl) (fun w hI => ⟨by rw [show k = n from by omega], hI.keep⟩)

theorem has_g (s n : Nat) (w : World) (hs : s ≤ 1000000) (hn : n ≤ 60) : Gives Try.prog 116 [nt s, nt n] w (.bool (decide (((s / 2 ^ n % 2 : Nat) : Int) = 1))) := by
  unfold Gives
  have hb : (0 : Int) < ((2 ^ n : Nat) : Int) := by have := Nat.pow_pos (n := n) (show 0 < 2 by omega); omega
  have hq0 : 0 ≤ (s : Int) / ((2 ^ n : Nat) : Int) := Int.ediv_nonneg (by omega) (by omega)
  have hq1 : (s : Int) / ((2 ^ n : Nat) : Int) ≤ s := Int.ediv_le_self _ (by omega)
  refine enter Try.func116 rfl 11 Try.ntmps116 (Nat.le_of_ble_eq_true rfl) (Inv.start (D := fun _ => none) (by intro _ _ h; cases h)) ?_
  refine WC.seq ?_
  refine WC.ofFr [(0, _), (1, _)] ⟨rfl, rfl, trivial⟩ ?_
  refine WC.region ?_
  refine WL.yd (Yd.assign rfl) rfl ?_
  refine WL.nil ?_
  refine WP.thenC ?_
  refine WC.seq ?_
  refine WC.ofFr [(4, _), (0, _), (1, _)] ⟨rfl, rfl, rfl, trivial⟩ ?_
  refine WC.region ?_
  refine WL.yd (Yd.move rfl) rfl ?_
  refine WL.yd (Yd.move rfl) rfl ?_
  refine WL.so (SO.callP Try.call66 rfl (fun w hI => power_g n _ hn)) rfl ?_
  rintro _ _ _ ⟨rfl, rfl, rfl⟩
  refine WL.yd (Yd.quo rfl rfl (by omega) (by omega) (wr64 ⟨by omega, by omega⟩)) rfl ?_
  refine WL.yd (Yd.rem rfl rfl (by omega) (by omega)) rfl ?_
  refine WL.yd (Yd.eql rfl rfl) rfl ?_
  refine WL.yd (Yd.assign rfl) rfl ?_
  refine WL.nil ?_
  refine WP.thenC ?_
  refine WC.ret ?_
  refine WP.ret1 rfl rfl Try.results116 (RV.tmp rfl) (fun w hI => ⟨rfl, hI.keep⟩)

theorem at54_g (x : List Int) (a3 : Option Addr) (n3 c3 : Nat) (D : Imm) (w : World) (hS3 : SlL D 1 (x.map intC) a3 n3) (hn3 : n3 ≤ 1000) (hH : Holds D w) (who : Int) (h0 : -1 ≤ who) (h1 : who + 1 < (n3 : Int)) : Gives Try.prog 54 [.slice a3 n3 c3, it who] w (it (gt x (who + 1).toNat)) := by
  unfold Gives
  refine enter Try.func54 rfl 10 Try.ntmps54 (Nat.le_of_ble_eq_true rfl) (Inv.start hH) ?_
  refine WC.seq ?_
  refine WC.ofFr [(0, _), (1, _)] ⟨rfl, rfl, trivial⟩ ?_
  refine WC.region ?_
  refine WL.yd (Yd.assign rfl) rfl ?_
  refine WL.nil ?_
  refine WP.thenC ?_
  refine WC.seq ?_
  refine WC.ofFr [(4, _), (0, _), (1, _)] ⟨rfl, rfl, rfl, trivial⟩ ?_
  refine WC.region ?_
  refine WL.yd (Yd.move rfl) rfl ?_
  refine WL.yd (Yd.move rfl) rfl ?_
  refine WL.yd (Yd.add rfl rfl (wr64 ⟨by omega, by omega⟩)) rfl ?_
  refine WL.yd (Yd.indexS Try.underlying52 Try.sizeOf3 rfl rfl (by omega) (by omega) (by first | exact hS3.addr (who + 1).toNat (by omega))) rfl ?_
  refine WL.yd (Yd.load1 Try.isAgg3 rfl (by first | exact ((hS3.at (who + 1).toNat (by omega)).rd 0 rfl))) rfl ?_
  refine WL.yd (Yd.assign rfl) rfl ?_
  refine WL.nil ?_
  refine WP.thenC ?_
  refine WC.ret ?_
  refine WP.ret1 rfl rfl Try.results54 (RV.tmp rfl) (fun w hI => ⟨rfl, hI.keep⟩)

theorem right117_g (x : List Int) (a3 : Option Addr) (n3 c3 : Nat) (D : Imm) (w : World) (hS3 : SlL D 1 (x.map intC) a3 n3) (hn3 : n3 ≤ 1000) (hH : Holds D w) (c : PClaim) (h0 : -1 ≤ c.a) (h1 : c.a + 1 < (n3 : Int)) (h2 : -1 ≤ c.b) (h3 : c.b + 1 < (n3 : Int)) : Gives Try.prog 117 [.slice a3 n3 c3, .agg #[it c.a, it c.b, .bool c.not]] w (.bool (RightB x c)) := by
  unfold Gives
  refine enter Try.func117 rfl 17 Try.ntmps117 (Nat.le_of_ble_eq_true rfl) (Inv.start hH) ?_
  refine WC.seq ?_
  refine WC.ofFr [(0, _), (1, _)] ⟨rfl, rfl, trivial⟩ ?_
  refine WC.region ?_
  refine WL.so (SO.box rfl rfl) rfl ?_
  rintro _ _ _ ⟨b3, hb3, rfl, rfl, rfl⟩
  refine WL.yd (Yd.assign rfl) rfl ?_
  refine WL.nil ?_
  refine WP.thenC ?_
  refine WC.seq ?_
  refine WC.ofFr [(4, _), (3, _), (0, _)] ⟨rfl, rfl, rfl, trivial⟩ ?_
  refine WC.tail 11 [0, 1, 2, 3, 4, 5, 6, 7, 8, 9, 10] rfl (by kernel_rfl) (by kernel_rfl)  ?_
  refine WQ.q rfl (Yd.qt (Yd.move rfl)) rfl ?_
  refine WQ.q rfl (Yd.qt (Yd.fieldAddr FA47_0 rfl)) rfl ?_
  refine WQ.q rfl (Yd.qt (Yd.load1 Try.isAgg3 rfl (by first | exact Rd.own (k := 0) rfl rfl))) rfl ?_
  refine WQ.q rfl (Qt.callP Try.call54 rfl (fun w hI => at54_g x a3 _ c3 _ w hS3 hn3 hI.imm c.a (by omega) (by omega))) rfl ?_
  refine WQ.q rfl (Yd.qt (Yd.move rfl)) rfl ?_
  refine WQ.q rfl (Yd.qt (Yd.fieldAddr FA47_1 rfl)) rfl ?_
  refine WQ.q rfl (Yd.qt (Yd.load1 Try.isAgg3 rfl (by first | exact Rd.own (k := 0) rfl rfl))) rfl ?_
  refine WQ.q rfl (Qt.callP Try.call54 rfl (fun w hI => at54_g x a3 _ c3 _ w hS3 hn3 hI.imm c.b (by omega) (by omega))) rfl ?_
  refine WQ.q rfl (Yd.qt (Yd.lss rfl rfl)) rfl ?_
  refine WQ.q rfl (Yd.qt (Yd.fieldAddr FA47_2 rfl)) rfl ?_
  refine WQ.q rfl (Yd.qt (Yd.load1 Try.isAgg4 rfl (by first | exact Rd.own (k := 0) rfl rfl))) rfl ?_
  refine WQ.tail ?_
  refine WL.yd (Yd.neB Try.underlying4 rfl rfl) rfl ?_
  refine WL.yd (Yd.assign rfl) rfl ?_
  refine WL.nil ?_
  refine WP.thenC ?_
  refine WC.ret ?_
  refine WP.ret1 rfl rfl Try.results117 (RV.tmp rfl) (fun w hI => ⟨rfl, hI.keep⟩)

theorem right113_g (p : Post) (a1 : Option Addr) (n1 c1 : Nat) (a2 : Option Addr) (n2 c2 : Nat) (D : Imm) (w : World) (hR : PostR D p a1 n1 a2 n2) (hH : Holds D w) (hv : postB p = true) (x : List Int) (a3 : Option Addr) (n3 c3 : Nat) (hS3 : SlL D 1 (x.map intC) a3 n3) (hn3 : n3 ≤ 1000) (s : Nat) (hs : s ≤ 1000) : Gives Try.prog 113 [.agg #[it p.post.lo, it p.post.hi, .slice a1 n1 c1, .slice a2 n2 c2], .slice a3 n3 c3, nt s] w (.bool (rightB p s x)) := by
  unfold Gives
  obtain rfl := hR.bath.len'
  obtain rfl := hR.claim.len'
  have hl1 := hR.len1
  have hl2 := hR.len2
  obtain rfl := hS3.len'
  have h8 := (post_num hv).2.2.1
  refine enter Try.func113 rfl 46 Try.ntmps113 (Nat.le_of_ble_eq_true rfl) (Inv.start hH) ?_
  refine WC.seq ?_
  refine WC.ofFr [(0, _), (1, _), (2, _)] ⟨rfl, rfl, rfl, trivial⟩ ?_
  refine WC.region ?_
  refine WL.so (SO.box rfl rfl) rfl ?_
  rintro _ _ _ ⟨b3, hb3, rfl, rfl, rfl⟩
  refine WL.yd (Yd.assign rfl) rfl ?_
  refine WL.nil ?_
  refine WP.thenC ?_
  refine WC.seq ?_
  refine WC.seq ?_
  refine WC.ofFr [(6, _), (3, _), (1, _), (2, _)] ⟨rfl, rfl, rfl, rfl, trivial⟩ ?_
  refine WC.region ?_
  refine WL.yd (Yd.assign rfl) rfl ?_
  refine WL.nil ?_
  refine WP.thenC ?_
  refine WC.block ?_
  refine WC.loopF (fun k : Nat => [(1, .slice a3 x.length c3), (2, nt s), (3, pt b3), (7, nt k)]) (fun k => k ≤ p.claims.length ∧ ∀ i, i < k → okB p s x i = true) (fun k => p.claims.length - k) 0 ⟨by omega, by intro i hi; omega⟩ (by exact ⟨rfl, rfl, rfl, rfl, trivial⟩) ?_
  intro k ⟨hk, hd⟩
  refine WC.seq ?_
  refine WC.seq ?_
  refine WC.ofFr [(1, _), (2, _), (3, _), (7, _)] ⟨rfl, rfl, rfl, rfl, trivial⟩ ?_
  refine WC.region ?_
  refine WL.yd (Yd.move rfl) rfl ?_
  refine WL.yd (Yd.fieldAddr FA27_2 rfl) rfl ?_
  refine WL.yd (Yd.load1 Try.isAgg25 rfl (by first | exact Rd.own (k := 0) rfl rfl)) rfl ?_
  refine WL.yd (Yd.lenS rfl Try.underlying25 rfl) rfl ?_
  refine WL.yd (Yd.lss rfl rfl) rfl ?_
  refine WL.nil ?_
  refine WP.thenC ?_
  refine WC.cond rfl (fun c13 => ?_) (fun c13 => ?_)
  · try simp only [zq1, zq2, zq3, zq4, zq5, zq6, zq7, zq8] at c13
    have hcn := (post_num hv).2.2.2.2 k (by omega)
    refine WC.skip ?_
    refine WP.thenC ?_
    refine WC.seq ?_
    refine WC.block ?_
    refine WC.seq ?_
    refine WC.ofFr [(1, _), (2, _), (3, _), (7, _)] ⟨rfl, rfl, rfl, rfl, trivial⟩ ?_
    refine WC.region ?_
    refine WL.yd (Yd.fieldAddr FA27_2 rfl) rfl ?_
    refine WL.yd (Yd.load1 Try.isAgg25 rfl (by first | exact Rd.own (k := 0) rfl rfl)) rfl ?_
    refine WL.yd (Yd.move rfl) rfl ?_
    refine WL.yd (Yd.indexS Try.underlying25 Try.sizeOf47 rfl rfl (by omega) (by omega) (by first | exact hR.claim.addr k (by omega))) rfl ?_
    refine WL.yd (Yd.loadN Try.isAgg47 Try.sizeOf47 rfl (vs := [_, _, _]) rfl (by first | exact RdN.own (k := 0) (n := 3) rfl rfl | exact (hR.claim.at k (by omega)).rdn 0 3 rfl)) rfl ?_
    refine WL.so (SO.alloc Try.zeroValue47 rfl) rfl ?_
    rintro _ _ _ ⟨b8, hb8, rfl, rfl, rfl⟩
    refine WL.so (SO.store 0 rfl Try.sizeOf47 rfl rfl rfl rfl (Nat.le_of_ble_eq_true rfl) (oneB_spec rfl)) rfl ?_
    rintro _ _ _ ⟨rfl, rfl, rfl⟩
    refine WL.nil ?_
    refine WP.thenC ?_
    refine WC.seq ?_
    refine WC.ofFr [(8, _), (1, _), (2, _), (3, _), (7, _)] ⟨rfl, rfl, rfl, rfl, rfl, trivial⟩ ?_
    refine WC.region ?_
    refine WL.yd (Yd.move rfl) rfl ?_
    refine WL.yd (Yd.move rfl) rfl ?_
    refine WL.so (SO.callP Try.call116 rfl (fun w hI => has_g s k _ (by omega) (by omega))) rfl ?_
    rintro _ _ _ ⟨rfl, rfl, rfl⟩
    refine WL.yd (Yd.move rfl) rfl ?_
    refine WL.part 24 rfl (fun g24 => ?_) (fun g24 => ?_)
    · try simp only [zq1, zq2, zq3, zq4, zq5, zq6, zq7, zq8] at g24
      refine WL.ydg rfl (Yd.fieldAddr FA47_0 rfl) rfl ?_
      refine WL.ydg rfl (Yd.load1 Try.isAgg3 rfl (by first | exact Rd.own (k := 0) rfl rfl | exact Rd.own (k := 1) rfl rfl)) rfl ?_
      refine WL.ydg rfl (Yd.add rfl rfl (wr64 ⟨by omega, by omega⟩)) rfl ?_
      refine WL.ydg rfl (Yd.move rfl) rfl ?_
      refine WL.ydg rfl (Yd.lenS rfl Try.underlying52 rfl) rfl ?_
      refine WL.ydg rfl (Yd.lss rfl rfl) rfl ?_
      refine WL.yd (Yd.pickT rfl rfl) rfl ?_
      refine WL.yd (Yd.move rfl) rfl ?_
      refine WL.part 32 rfl (fun g32 => ?_) (fun g32 => ?_)
      · try simp only [zq1, zq2, zq3, zq4, zq5, zq6, zq7, zq8] at g32
        refine WL.ydg rfl (Yd.fieldAddr FA47_1 rfl) rfl ?_
        refine WL.ydg rfl (Yd.load1 Try.isAgg3 rfl (by first | exact Rd.own (k := 0) rfl rfl | exact Rd.own (k := 1) rfl rfl)) rfl ?_
        refine WL.ydg rfl (Yd.add rfl rfl (wr64 ⟨by omega, by omega⟩)) rfl ?_
        refine WL.ydg rfl (Yd.move rfl) rfl ?_
        refine WL.ydg rfl (Yd.lenS rfl Try.underlying52 rfl) rfl ?_
        refine WL.ydg rfl (Yd.lss rfl rfl) rfl ?_
        refine WL.yd (Yd.pickT rfl rfl) rfl ?_
        refine WL.yd (Yd.move rfl) rfl ?_
        refine WL.part 40 rfl (fun g40 => ?_) (fun g40 => ?_)
        · try simp only [zq1, zq2, zq3, zq4, zq5, zq6, zq7, zq8] at g40
          refine WL.ydg rfl (Yd.move rfl) rfl ?_
          refine WL.ydg rfl (Yd.loadN Try.isAgg47 Try.sizeOf47 rfl (vs := [_, _, _]) rfl (by first | exact RdN.own (k := 0) (n := 3) rfl rfl | exact RdN.own (k := 1) (n := 3) rfl rfl | exact (hR.claim.at k (by omega)).rdn 0 3 rfl)) rfl ?_
          refine WL.sog rfl (SO.callP Try.call117 rfl (fun w hI => right117_g x a3 _ c3 _ w hS3 hn3 hI.imm (gt p.claims k) (by omega) (by omega) (by omega) (by omega))) rfl ?_
          rintro _ _ _ ⟨rfl, rfl, rfl⟩
          refine WL.ydg rfl (Yd.not rfl) rfl ?_
          refine WL.yd (Yd.pickT rfl rfl) rfl ?_
          refine WL.nil ?_
          refine WP.thenC ?_
          refine WC.cond rfl (fun c45 => ?_) (fun c45 => ?_)
          · try simp only [zq1, zq2, zq3, zq4, zq5, zq6, zq7, zq8] at c45
            refine WC.seq ?_
            refine WC.ofFr [(1, _), (2, _), (3, _), (7, _)] ⟨rfl, rfl, rfl, rfl, trivial⟩ ?_
            refine WC.region ?_
            refine WL.yd (Yd.assign rfl) rfl ?_
            refine WL.nil ?_
            refine WP.thenC ?_
            refine WC.ret ?_
            refine WP.blkRet ?_
            refine WP.thenRet ?_
            refine WP.thenRet ?_
            refine WP.blkRet ?_
            refine WP.thenRet ?_
            refine WP.ret1 rfl rfl Try.results113 (RV.tmp rfl) (fun w hI => ⟨ret_bool (by
              first
              | exact (rightB_iff.2 (fun i hi => hd i (by omega))).symm
              | (cases hr : rightB p s x with
                 | false => rfl
                 | true =>
                   exfalso
                   have h1 := okB_iff.1 (rightB_iff.1 hr k (by omega)) (nat_one.1 g24) g32 g40
                   rw [h1] at c45; cases c45)), hI.keep⟩)
          · try simp only [zq1, zq2, zq3, zq4, zq5, zq6, zq7, zq8] at c45
            refine WC.skip ?_
            refine WP.blkNormal ?_
            refine WP.thenC ?_
            refine WC.ofFr [(1, _), (2, _), (3, _), (7, _)] ⟨rfl, rfl, rfl, rfl, trivial⟩ ?_
            refine WC.region ?_
            refine WL.yd (Yd.move rfl) rfl ?_
            refine WL.yd (Yd.add rfl rfl (wr64 ⟨by omega, by omega⟩)) rfl ?_
            refine WL.yd (Yd.assign rfl) rfl ?_
            refine WL.nil ?_
            exact WP.againF (k + 1) ⟨by omega, ext_round hd (okB_iff.2 fun h1 h2 h3 => by first | exact c45 | omega | exact absurd (nat_one.2 h1) g24)⟩ (by omega) ⟨rfl, rfl, rfl, rfl, trivial⟩ (fun _ h => .tail _ h) (fun h => (List.nodup_cons.1 h).2)
        · try simp only [zq1, zq2, zq3, zq4, zq5, zq6, zq7, zq8] at g40
          refine WL.skip rfl rfl ?_
          refine WL.skip rfl rfl ?_
          refine WL.skip rfl rfl ?_
          refine WL.skip rfl rfl ?_
          refine WL.yd (Yd.pickF rfl rfl) rfl ?_
          refine WL.nil ?_
          refine WP.thenC ?_
          refine WC.condF rfl ?_
          refine WC.skip ?_
          refine WP.blkNormal ?_
          refine WP.thenC ?_
          refine WC.ofFr [(1, _), (2, _), (3, _), (7, _)] ⟨rfl, rfl, rfl, rfl, trivial⟩ ?_
          refine WC.region ?_
          refine WL.yd (Yd.move rfl) rfl ?_
          refine WL.yd (Yd.add rfl rfl (wr64 ⟨by omega, by omega⟩)) rfl ?_
          refine WL.yd (Yd.assign rfl) rfl ?_
          refine WL.nil ?_
          exact WP.againF (k + 1) ⟨by omega, ext_round hd (okB_iff.2 fun h1 h2 h3 => by first | exact c45 | omega | exact absurd (nat_one.2 h1) g24)⟩ (by omega) ⟨rfl, rfl, rfl, rfl, trivial⟩ (fun _ h => .tail _ h) (fun h => (List.nodup_cons.1 h).2)
      · try simp only [zq1, zq2, zq3, zq4, zq5, zq6, zq7, zq8] at g32
        refine WL.skip rfl rfl ?_
        refine WL.skip rfl rfl ?_
        refine WL.skip rfl rfl ?_
        refine WL.skip rfl rfl ?_
        refine WL.skip rfl rfl ?_
        refine WL.skip rfl rfl ?_
        refine WL.yd (Yd.pickF rfl rfl) rfl ?_
        refine WL.yd (Yd.move rfl) rfl ?_
        refine WL.skip rfl rfl ?_
        refine WL.skip rfl rfl ?_
        refine WL.skip rfl rfl ?_
        refine WL.skip rfl rfl ?_
        refine WL.yd (Yd.pickF rfl rfl) rfl ?_
        refine WL.nil ?_
        refine WP.thenC ?_
        refine WC.condF rfl ?_
        refine WC.skip ?_
        refine WP.blkNormal ?_
        refine WP.thenC ?_
        refine WC.ofFr [(1, _), (2, _), (3, _), (7, _)] ⟨rfl, rfl, rfl, rfl, trivial⟩ ?_
        refine WC.region ?_
        refine WL.yd (Yd.move rfl) rfl ?_
        refine WL.yd (Yd.add rfl rfl (wr64 ⟨by omega, by omega⟩)) rfl ?_
        refine WL.yd (Yd.assign rfl) rfl ?_
        refine WL.nil ?_
        exact WP.againF (k + 1) ⟨by omega, ext_round hd (okB_iff.2 fun h1 h2 h3 => by first | exact c45 | omega | exact absurd (nat_one.2 h1) g24)⟩ (by omega) ⟨rfl, rfl, rfl, rfl, trivial⟩ (fun _ h => .tail _ h) (fun h => (List.nodup_cons.1 h).2)
    · try simp only [zq1, zq2, zq3, zq4, zq5, zq6, zq7, zq8] at g24
      refine WL.skip rfl rfl ?_
      refine WL.skip rfl rfl ?_
      refine WL.skip rfl rfl ?_
      refine WL.skip rfl rfl ?_
      refine WL.skip rfl rfl ?_
      refine WL.skip rfl rfl ?_
      refine WL.yd (Yd.pickF rfl rfl) rfl ?_
      refine WL.yd (Yd.move rfl) rfl ?_
      refine WL.skip rfl rfl ?_
      refine WL.skip rfl rfl ?_
      refine WL.skip rfl rfl ?_
      refine WL.skip rfl rfl ?_
      refine WL.skip rfl rfl ?_
      refine WL.skip rfl rfl ?_
      refine WL.yd (Yd.pickF rfl rfl) rfl ?_
      refine WL.yd (Yd.move rfl) rfl ?_
      refine WL.skip rfl rfl ?_
      refine WL.skip rfl rfl ?_
      refine WL.skip rfl rfl ?_
      refine WL.skip rfl rfl ?_
      refine WL.yd (Yd.pickF rfl rfl) rfl ?_
      refine WL.nil ?_
      refine WP.thenC ?_
      refine WC.condF rfl ?_
      refine WC.skip ?_
      refine WP.blkNormal ?_
      refine WP.thenC ?_
      refine WC.ofFr [(1, _), (2, _), (3, _), (7, _)] ⟨rfl, rfl, rfl, rfl, trivial⟩ ?_
      refine WC.region ?_
      refine WL.yd (Yd.move rfl) rfl ?_
      refine WL.yd (Yd.add rfl rfl (wr64 ⟨by omega, by omega⟩)) rfl ?_
      refine WL.yd (Yd.assign rfl) rfl ?_
      refine WL.nil ?_
      exact WP.againF (k + 1) ⟨by omega, ext_round hd (okB_iff.2 fun h1 h2 h3 => by first | exact c45 | omega | exact absurd (nat_one.2 h1) g24)⟩ (by omega) ⟨rfl, rfl, rfl, rfl, trivial⟩ (fun _ h => .tail _ h) (fun h => (List.nodup_cons.1 h).2)
  · try simp only [zq1, zq2, zq3, zq4, zq5, zq6, zq7, zq8] at c13
    refine WC.exit ?_
    refine WP.thenExit ?_
    refine WP.thenExit ?_
    refine WP.blkHit ?_
    refine WP.thenC ?_
    refine WC.seq ?_
    refine WC.ofFr [] trivial ?_
    refine WC.region ?_
    refine WL.yd (Yd.assign rfl) rfl ?_
    refine WL.nil ?_
    refine WP.thenC ?_
    refine WC.ret ?_
    refine WP.ret1 rfl rfl Try.results113 (RV.tmp rfl) (fun w hI => ⟨ret_bool (by
      first
      | exact (rightB_iff.2 (fun i hi => hd i (by omega))).symm
      | (cases hr : rightB p s x with
         | false => rfl
         | true =>
           exfalso
           have h1 := okB_iff.1 (rightB_iff.1 hr k (by omega)) (nat_one.1 g24) g32 g40
           rw [h1] at c45; cases c45)), hI.keep⟩)

structure OutT (D : Imm) (L : List (List Int)) (vs : List Value) : Prop where
  len : vs.length = L.length
  at_ : ∀ i, i < L.length → ∃ a n c, vs[i]? = some (.slice a n c) ∧ SlL D 1 ((gt L i).map intC) a n
theorem OutT.ext {w : World} {D D' : Imm} (hD : DExt w D D') {L : List (List Int)} {vs : List Value} (h : OutT D L vs) : OutT D' L vs :=
  ⟨h.len, fun i hi => let ⟨a, n, c, h1, h2⟩ := h.at_ i hi; ⟨a, n, c, h1, h2.ext hD⟩⟩
theorem OutT.nil (D : Imm) : OutT D [] [] := ⟨rfl, fun i hi => by simp at hi⟩
theorem gt_app_at {α : Type} [Inhabited α] (a : List α) (x : α) : gt (a ++ [x]) a.length = x := by
  simp [gt, List.getD]
theorem OutT.snoc {D : Imm} {L : List (List Int)} {vs : List Value} {l : List Int} {a : Option Addr} {n c : Nat} (h : OutT D L vs) (hP : SlL D 1 (l.map intC) a n) : OutT D (L ++ [l]) (vs ++ [.slice a n c]) := by
  refine ⟨by simp [h.len], fun i hi => ?_⟩
  rw [List.length_append, List.length_singleton] at hi
  by_cases e : i < L.length
  · obtain ⟨a', n', c', h1, h2⟩ := h.at_ i e
    refine ⟨a', n', c', ?_, ?_⟩
    · rw [List.getElem?_append_left (by rw [h.len]; exact e)]; exact h1
    · rw [gt_app_lt _ _ e]; exact h2
  · have : i = L.length := by omega
    subst this
    refine ⟨a, n, c, ?_, ?_⟩
    · rw [← h.len]; simp
    · rw [gt_app_at]; exact hP
def TrK (p : Post) (s rem : Nat) (b : List Int) (L : List (List Int)) (v : Value) (D' : Imm) (hpc' : Hp) : Prop :=
  ∃ (vs' : List Value) (o' : Option Ow), v = owV o' vs'.length ∧ OutT D' (L ++ truC p s rem b) vs' ∧ owL o' vs'.length 1 ∧ hpc' = owH o' 52 vs' []
theorem ints_snoc {D : Imm} {u : Nat} {t : TypeId} {fz : Nat × Nat} {b : List Int} {x : Int} {rest : List Value} (hD : D u = some (.cells (b.flatMap intC ++ intC x ++ rest).toArray t fz)) : SlL D 1 ((b ++ [x]).map intC) (some ⟨u, 0, none⟩) (b.length + 1) := by
  have e : b.flatMap intC ++ intC x = (b ++ [x]).flatMap intC := by rw [List.flatMap_append]; simp
  rw [e] at hD
  have := SlL.ofBlock (f := intC) (l := b ++ [x]) (rest := rest) intC_len hD
  rwa [List.length_append] at this

theorem truths_0 (p : Post) (s : Nat) (hs : s ≤ 1000) (hv : postB p = true) (a1 : Option Addr) (n1 c1 : Nat) (a2 : Option Addr) (n2 c2 : Nat) (D : Imm) (w : World) (hR : PostR D p a1 n1 a2 n2) (b : List Int) (a3 : Option Addr) (n3 c3 : Nat) (L : List (List Int)) (vs : List Value) (o : Option Ow) (hl : b.length + 0 = p.bathers.length + 1) (hS3 : SlL D 1 (b.map intC) a3 n3) (hO : OutT D L vs) (ho : owL o vs.length 1) (hL : L.length + 41 ^ 0 ≤ 4750104241) (hI0 : Inv D (owH o 52 vs []) (keys (owH o 52 vs [])) w w) : AltersN Try.prog 109 [.agg #[it p.post.lo, it p.post.hi, .slice a1 n1 c1, .slice a2 n2 c2], nt s, .slice a3 n3 c3, owV o vs.length] w D (keys (owH o 52 vs [])) (TrK p s 0 b L) := by
  unfold AltersN
  obtain rfl := hR.bath.len'
  obtain rfl := hR.claim.len'
  have hl1 := hR.len1
  have hl2 := hR.len2
  obtain rfl := hS3.len'
  have h5 := (post_num hv).2.1
  have hvl := hO.len
  have hL' : L.length + 1 ≤ 4750104241 := hL
  refine enter Try.func109 rfl 60 Try.ntmps109 (Nat.le_of_ble_eq_true rfl) hI0 ?_
  refine WC.seq ?_
  refine WC.ofFr [(0, _), (1, _), (2, _), (3, _)] ⟨rfl, rfl, rfl, rfl, trivial⟩ ?_
  refine WC.region ?_
  refine WL.so (SO.box rfl rfl) rfl ?_
  rintro _ _ _ ⟨b4, hb4, rfl, rfl, rfl⟩
  refine WL.yd (Yd.assign rfl) rfl ?_
  refine WL.nil ?_
  refine WP.thenC ?_
  refine WC.seq ?_
  refine WC.seq ?_
  refine WC.ofFr [(8, _), (4, _), (1, _), (2, _), (3, _)] ⟨rfl, rfl, rfl, rfl, rfl, trivial⟩ ?_
  refine WC.region ?_
  refine WL.yd (Yd.loadN Try.isAgg27 Try.sizeOf27 rfl (vs := [_, _, _, _]) rfl (by first | exact RdN.own (k := 0) (n := 4) rfl rfl | exact RdN.own (k := 1) (n := 4) rfl rfl)) rfl ?_
  refine WL.yd (Yd.move rfl) rfl ?_
  refine WL.yd (Yd.move rfl) rfl ?_
  refine WL.so (SO.callP Try.call113 rfl (fun w hI => right113_g p a1 _ c1 a2 _ c2 D _ hR hI.imm hv b a3 _ c3 hS3 (by omega) s hs)) rfl ?_
  rintro _ _ _ ⟨rfl, rfl, rfl⟩
  refine WL.yd (Yd.not rfl) rfl ?_
  refine WL.nil ?_
  refine WP.thenC ?_
  refine WC.cond rfl (fun c16 => ?_) (fun c16 => ?_)
  · try simp only [zq1, zq2, zq3, zq4, zq5, zq6, zq7, zq8] at c16
    refine WC.seq ?_
    refine WC.ofFr [(8, _), (4, _), (1, _), (2, _), (3, _)] ⟨rfl, rfl, rfl, rfl, rfl, trivial⟩ ?_
    refine WC.region ?_
    refine WL.yd (Yd.move rfl) rfl ?_
    refine WL.yd (Yd.assign rfl) rfl ?_
    refine WL.nil ?_
    refine WP.thenC ?_
    refine WC.ret ?_
    refine WP.thenRet ?_
    refine WP.ret1 rfl rfl Try.results109 (RV.tmp rfl) (fun w1 hI => ⟨_, _, _, rfl, DExt.refl _ _, hI.tail, vs, o, rfl, by rw [show truC p s 0 b = [] from if_neg (by rw [show rightB p s b = false by simpa using c16]; simp), List.append_nil]; exact hO, ho, rfl⟩)
  · try simp only [zq1, zq2, zq3, zq4, zq5, zq6, zq7, zq8] at c16
    have hrt : rightB p s b = true := by simpa using c16
    refine WC.skip ?_
    refine WP.thenC ?_
    refine WC.seq ?_
    refine WC.ofFr [(8, _), (4, _), (1, _), (2, _), (3, _)] ⟨rfl, rfl, rfl, rfl, rfl, trivial⟩ ?_
    refine WC.region ?_
    refine WL.yd (Yd.move rfl) rfl ?_
    refine WL.yd (Yd.lenS rfl Try.underlying52 rfl) rfl ?_
    refine WL.yd (Yd.assign rfl) rfl ?_
    refine WL.nil ?_
    refine WP.thenC ?_
    refine WC.seq ?_
    refine WC.seq ?_
    refine WC.ofFr [(9, _), (8, _), (4, _), (1, _), (2, _), (3, _)] ⟨rfl, rfl, rfl, rfl, rfl, rfl, trivial⟩ ?_
    refine WC.region ?_
    refine WL.yd (Yd.move rfl) rfl ?_
    refine WL.yd (Yd.fieldAddr FA27_1 rfl) rfl ?_
    refine WL.yd (Yd.load1 Try.isAgg24 rfl (by first | exact Rd.own (k := 0) rfl rfl | exact Rd.own (k := 1) rfl rfl)) rfl ?_
    refine WL.yd (Yd.lenS rfl Try.underlying24 rfl) rfl ?_
    refine WL.yd (Yd.add rfl rfl (wr64 ⟨by omega, by omega⟩)) rfl ?_
    refine WL.yd (Yd.eql rfl rfl) rfl ?_
    refine WL.nil ?_
    refine WP.thenC ?_
    refine WC.cond rfl (fun c25 => ?_) (fun c25 => ?_)
    · try simp only [zq1, zq2, zq3, zq4, zq5, zq6, zq7, zq8] at c25
      refine WC.seq ?_
      refine WC.ofFr [(9, _), (8, _), (4, _), (1, _), (2, _), (3, _)] ⟨rfl, rfl, rfl, rfl, rfl, rfl, trivial⟩ ?_
      refine WC.region ?_
      refine WL.yd (Yd.move rfl) rfl ?_
      refine WL.yd (Yd.move rfl) rfl ?_
      refine WL.so (SO.buildSlice Try.underlying80 Try.sizeOf52 Try.zeroValue52 rfl rfl rfl rfl (cs := [_]) rfl) rfl ?_
      rintro _ _ _ ⟨b28, hb28, rfl, rfl, rfl⟩
      refine WL.so (SO.appendL (o := o) (len := vs.length) (n := 1) (xs := vs) (size := 1) [_] [_] [] rfl rfl Try.underlying80 Try.sizeOf52 Try.typeInfo52 Try.zeroValue52 rfl rfl rfl rfl ⟨rfl, .inr ⟨_, _, _, rfl, RdN.own (k := 0) (n := 1) rfl rfl⟩⟩ (oneB_spec rfl) ho (by omega) (by omega) (by show (2 * (_ + _) + 1000) * 24 ≤ 2 ^ 48; omega) (by omega)) rfl ?_
      rintro _ _ _ ⟨u1, hu1, rfl, rfl, rfl⟩
      refine WL.yd (Yd.assign rfl) rfl ?_
      refine WL.nil ?_
      refine WP.thenC ?_
      refine WC.ret ?_
      refine WP.thenRet ?_
      refine WP.ret1 rfl rfl Try.results109 (RV.tmp rfl) (fun w1 hI => ⟨_, _, _, rfl, DExt.refl _ _, hI.tail, vs ++ [.slice a3 b.length c3], some u1, by rw [List.length_append]; rfl, by rw [show truC p s 0 b = [b] from if_pos hrt]; exact hO.snoc hS3, by rw [List.length_append]; exact hu1, rfl⟩)
    · try simp only [zq1, zq2, zq3, zq4, zq5, zq6, zq7, zq8] at c25
      omega

theorem truths_s (p : Post) (s : Nat) (hs : s ≤ 1000) (hv : postB p = true) (a1 : Option Addr) (n1 c1 : Nat) (a2 : Option Addr) (n2 c2 : Nat) (rem : Nat) (ih : ∀ (D : Imm) (w : World) (hR : PostR D p a1 n1 a2 n2) (b : List Int) (a3 : Option Addr) (n3 c3 : Nat) (L : List (List Int)) (vs : List Value) (o : Option Ow) (hl : b.length + rem = p.bathers.length + 1) (hS3 : SlL D 1 (b.map intC) a3 n3) (hO : OutT D L vs) (ho : owL o vs.length 1) (hL : L.length + 41 ^ rem ≤ 4750104241) (hI0 : Inv D (owH o 52 vs []) (keys (owH o 52 vs [])) w w), AltersN Try.prog 109 [.agg #[it p.post.lo, it p.post.hi, .slice a1 n1 c1, .slice a2 n2 c2], nt s, .slice a3 n3 c3, owV o vs.length] w D (keys (owH o 52 vs [])) (TrK p s rem b L)) (D : Imm) (w : World) (hR : PostR D p a1 n1 a2 n2) (b : List Int) (a3 : Option Addr) (n3 c3 : Nat) (L : List (List Int)) (vs : List Value) (o : Option Ow) (hl : b.length + (rem + 1) = p.bathers.length + 1) (hS3 : SlL D 1 (b.map intC) a3 n3) (hO : OutT D L vs) (ho : owL o vs.length 1) (hL : L.length + 41 ^ (rem + 1) ≤ 4750104241) (hI0 : Inv D (owH o 52 vs []) (keys (owH o 52 vs [])) w w) : AltersN Try.prog 109 [.agg #[it p.post.lo, it p.post.hi, .slice a1 n1 c1, .slice a2 n2 c2], nt s, .slice a3 n3 c3, owV o vs.length] w D (keys (owH o 52 vs [])) (TrK p s (rem + 1) b L) := by
  unfold AltersN
  obtain rfl := hR.bath.len'
  obtain rfl := hR.claim.len'
  have hl1 := hR.len1
  have hl2 := hR.len2
  obtain rfl := hS3.len'
  have h5 := (post_num hv).2.1
  have hvl := hO.len
  refine enter Try.func109 rfl 60 Try.ntmps109 (Nat.le_of_ble_eq_true rfl) hI0 ?_
  refine WC.seq ?_
  refine WC.ofFr [(0, _), (1, _), (2, _), (3, _)] ⟨rfl, rfl, rfl, rfl, trivial⟩ ?_
  refine WC.region ?_
  refine WL.so (SO.box rfl rfl) rfl ?_
  rintro _ _ _ ⟨b4, hb4, rfl, rfl, rfl⟩
  refine WL.yd (Yd.assign rfl) rfl ?_
  refine WL.nil ?_
  refine WP.thenC ?_
  refine WC.seq ?_
  refine WC.seq ?_
  refine WC.ofFr [(8, _), (4, _), (1, _), (2, _), (3, _)] ⟨rfl, rfl, rfl, rfl, rfl, trivial⟩ ?_
  refine WC.region ?_
  refine WL.yd (Yd.loadN Try.isAgg27 Try.sizeOf27 rfl (vs := [_, _, _, _]) rfl (by first | exact RdN.own (k := 0) (n := 4) rfl rfl | exact RdN.own (k := 1) (n := 4) rfl rfl | exact ((hR.bath.at (b.length - 1) (by omega)).rdn 1 2 rfl))) rfl ?_
  refine WL.yd (Yd.move rfl) rfl ?_
  refine WL.yd (Yd.move rfl) rfl ?_
  refine WL.so (SO.callP Try.call113 rfl (fun w hI => right113_g p a1 _ c1 a2 _ c2 D _ hR hI.imm hv b a3 _ c3 hS3 (by omega) s hs)) rfl ?_
  rintro _ _ _ ⟨rfl, rfl, rfl⟩
  refine WL.yd (Yd.not rfl) rfl ?_
  refine WL.nil ?_
  refine WP.thenC ?_
  refine WC.cond rfl (fun c16 => ?_) (fun c16 => ?_)
  · try simp only [zq1, zq2, zq3, zq4, zq5, zq6, zq7, zq8] at c16
    refine WC.seq ?_
    refine WC.ofFr [(8, _), (4, _), (1, _), (2, _), (3, _)] ⟨rfl, rfl, rfl, rfl, rfl, trivial⟩ ?_
    refine WC.region ?_
    refine WL.yd (Yd.move rfl) rfl ?_
    refine WL.yd (Yd.assign rfl) rfl ?_
    refine WL.nil ?_
    refine WP.thenC ?_
    refine WC.ret ?_
    refine WP.thenRet ?_
    refine WP.ret1 rfl rfl Try.results109 (RV.tmp rfl) (fun w1 hI => ⟨_, _, _, rfl, DExt.refl _ _, hI.tail, vs, o, rfl, by rw [show truC p s (rem + 1) b = [] from if_neg (by rw [show rightB p s b = false by simpa using c16]; simp), List.append_nil]; exact hO, ho, rfl⟩)
  · try simp only [zq1, zq2, zq3, zq4, zq5, zq6, zq7, zq8] at c16
    have hrt : rightB p s b = true := by simpa using c16
    refine WC.skip ?_
    refine WP.thenC ?_
    refine WC.seq ?_
    refine WC.ofFr [(8, _), (4, _), (1, _), (2, _), (3, _)] ⟨rfl, rfl, rfl, rfl, rfl, trivial⟩ ?_
    refine WC.region ?_
    refine WL.yd (Yd.move rfl) rfl ?_
    refine WL.yd (Yd.lenS rfl Try.underlying52 rfl) rfl ?_
    refine WL.yd (Yd.assign rfl) rfl ?_
    refine WL.nil ?_
    refine WP.thenC ?_
    refine WC.seq ?_
    refine WC.seq ?_
    refine WC.ofFr [(9, _), (8, _), (4, _), (1, _), (2, _), (3, _)] ⟨rfl, rfl, rfl, rfl, rfl, rfl, trivial⟩ ?_
    refine WC.region ?_
    refine WL.yd (Yd.move rfl) rfl ?_
    refine WL.yd (Yd.fieldAddr FA27_1 rfl) rfl ?_
    refine WL.yd (Yd.load1 Try.isAgg24 rfl (by first | exact Rd.own (k := 0) rfl rfl | exact Rd.own (k := 1) rfl rfl)) rfl ?_
    refine WL.yd (Yd.lenS rfl Try.underlying24 rfl) rfl ?_
    refine WL.yd (Yd.add rfl rfl (wr64 ⟨by omega, by omega⟩)) rfl ?_
    refine WL.yd (Yd.eql rfl rfl) rfl ?_
    refine WL.nil ?_
    refine WP.thenC ?_
    refine WC.cond rfl (fun c25 => ?_) (fun c25 => ?_)
    · try simp only [zq1, zq2, zq3, zq4, zq5, zq6, zq7, zq8] at c25
      omega
    · try simp only [zq1, zq2, zq3, zq4, zq5, zq6, zq7, zq8] at c25
      refine WC.skip ?_
      refine WP.thenC ?_
      refine WC.seq ?_
      refine WC.ofFr [(9, _), (8, _), (4, _), (1, _), (2, _), (3, _)] ⟨rfl, rfl, rfl, rfl, rfl, rfl, trivial⟩ ?_
      refine WC.region ?_
      refine WL.yd (Yd.fieldAddr FA27_0 rfl) rfl ?_
      refine WL.yd (Yd.loadN Try.isAgg23 Try.sizeOf23 rfl (vs := [_, _]) rfl (by first | exact RdN.own (k := 0) (n := 2) rfl rfl | exact RdN.own (k := 1) (n := 2) rfl rfl | exact ((hR.bath.at (b.length - 1) (by omega)).rdn 1 2 rfl))) rfl ?_
      refine WL.so (SO.alloc Try.zeroValue23 rfl) rfl ?_
      rintro _ _ _ ⟨b10, hb10, rfl, rfl, rfl⟩
      refine WL.so (SO.store 0 rfl Try.sizeOf23 rfl rfl rfl rfl (Nat.le_of_ble_eq_true rfl) (oneB_spec rfl)) rfl ?_
      rintro _ _ _ ⟨rfl, rfl, rfl⟩
      refine WL.nil ?_
      refine WP.thenC ?_
      have hsp := place_num hv (i := b.length + 1) (by unfold nodes; omega)
      have hwd : (wide p b.length : Int) = (spanAt p b.length).hi - (spanAt p b.length).lo + 1 := by unfold wide spanAt; omega
      have hsq : 0 ≤ (spanAt p b.length).lo ∧ (spanAt p b.length).lo ≤ (spanAt p b.length).hi ∧ (spanAt p b.length).hi ≤ 40 := hsp
      refine WC.seqJ (fun _ : Unit => [(1, nt s), (2, .slice a3 b.length c3), (3, owV o vs.length), (4, pt b4), (10, pt b10)]) (fun _ => (b10, .cells (List.toArray [it (spanAt p b.length).lo, it (spanAt p b.length).hi]) 23 (0, 0)) :: (b4, .cells (List.toArray [it p.post.lo, it p.post.hi, .slice a1 p.bathers.length c1, .slice a2 p.claims.length c2]) 27 (0, 0)) :: owH o 52 (vs) []) (fun _ => D) (fun _ => True) ?_ ?_
      · rintro ⟨⟩ _
        refine WC.seq ?_
        refine WC.seq ?_
        refine WC.ofFr [(1, _), (2, _), (3, _), (4, _), (10, _)] ⟨rfl, rfl, rfl, rfl, rfl, trivial⟩ ?_
        refine WC.region ?_
        refine WL.yd (Yd.fieldAddr FA23_0 rfl) rfl ?_
        refine WL.yd (Yd.load1 Try.isAgg3 rfl (by first | exact Rd.own (k := 0) rfl rfl | exact Rd.own (k := 1) rfl rfl | exact Rd.own (k := 2) rfl rfl)) rfl ?_
        refine WL.yd (Yd.assign rfl) rfl ?_
        refine WL.nil ?_
        refine WP.thenC ?_
        refine WC.block ?_
        refine WC.loop (fun y : Nat × List Value × Option Ow × Imm => [(1, nt s), (2, .slice a3 b.length c3), (3, owV y.2.2.1 (y.2.1).length), (4, pt b4), (10, pt b10), (11, it ((spanAt p b.length).lo + (y.1 : Int)))]) (fun y => (b10, .cells (List.toArray [it (spanAt p b.length).lo, it (spanAt p b.length).hi]) 23 (0, 0)) :: (b4, .cells (List.toArray [it p.post.lo, it p.post.hi, .slice a1 p.bathers.length c1, .slice a2 p.claims.length c2]) 27 (0, 0)) :: owH y.2.2.1 52 (y.2.1) []) (fun y => y.2.2.2) (fun y => y.1 ≤ wide p b.length ∧ DExt w D y.2.2.2 ∧ OutT y.2.2.2 (accT p s rem b L y.1) y.2.1 ∧ owL y.2.2.1 y.2.1.length 1) (fun y => wide p b.length - y.1) (0, vs, o, D) ⟨by omega, DExt.refl _ _, by rw [accT_zero]; exact hO, ho⟩ (fun a w h => by rw [show it ((spanAt p b.length).lo + ((0 : Nat) : Int)) = it (spanAt p b.length).lo from congrArg (Value.int .i64) (Int.add_zero _)]; exact at_fr h ⟨rfl, rfl, rfl, rfl, rfl, rfl, trivial⟩) ?_
        rintro ⟨k, vs1, o1, D1⟩ ⟨hk, hX1, hO1, ho1⟩
        dsimp only at hk hX1 hO1 ho1
        refine WC.seq ?_
        refine WC.seq ?_
        refine WC.ofFr [(1, _), (2, _), (3, _), (4, _), (10, _), (11, _)] ⟨rfl, rfl, rfl, rfl, rfl, rfl, trivial⟩ ?_
        refine WC.region ?_
        refine WL.yd (Yd.move rfl) rfl ?_
        refine WL.yd (Yd.fieldAddr FA23_1 rfl) rfl ?_
        refine WL.yd (Yd.load1 Try.isAgg3 rfl (by first | exact Rd.own (k := 0) rfl rfl | exact Rd.own (k := 1) rfl rfl | exact Rd.own (k := 2) rfl rfl)) rfl ?_
        refine WL.yd (Yd.leq rfl rfl) rfl ?_
        refine WL.nil ?_
        refine WP.thenC ?_
        refine WC.cond rfl (fun c46 => ?_) (fun c46 => ?_)
        · try simp only [zq1, zq2, zq3, zq4, zq5, zq6, zq7, zq8] at c46
          refine WC.skip ?_
          refine WP.thenC ?_
          refine WC.seq ?_
          refine WC.block ?_
          refine WC.ofFr [(1, _), (2, _), (3, _), (4, _), (10, _), (11, _)] ⟨rfl, rfl, rfl, rfl, rfl, rfl, trivial⟩ ?_
          refine WC.drawH [(b4, .cells (List.toArray [it p.post.lo, it p.post.hi, .slice a1 p.bathers.length c1, .slice a2 p.claims.length c2]) 27 (0, 0))] (by kernel_rfl) (fun _ hI => hI.pick 1 rfl) ?_
          refine WH.yd (i := 0) (by kernel_rfl) (fun _ o v c a w _ h => (QuietPanic.blk (QuietPanic.then (QuietPanic.then (QuietPanic.blk (QuietPanic.then QuietPanic.body))))) c o.dst v a w h) rfl (Yd.loadN Try.isAgg27 Try.sizeOf27 rfl (vs := [_, _, _, _]) rfl (by first | exact RdN.own (k := 0) (n := 4) rfl rfl | exact RdN.own (k := 1) (n := 4) rfl rfl | exact RdN.own (k := 2) (n := 4) rfl rfl | exact ((hR.bath.at (b.length - 1) (by omega)).rdn 1 2 rfl))) rfl ?_
          refine WH.yd (i := 1) (by kernel_rfl) (fun _ o v c a w _ h => (QuietPanic.blk (QuietPanic.then (QuietPanic.then (QuietPanic.blk (QuietPanic.then QuietPanic.body))))) c o.dst v a w h) rfl (Yd.move rfl) rfl ?_
          refine WH.yd (i := 3) (by kernel_rfl) (fun _ o v c a w _ h => (QuietPanic.blk (QuietPanic.then (QuietPanic.then (QuietPanic.blk (QuietPanic.then QuietPanic.body))))) c o.dst v a w h) rfl (Yd.move rfl) rfl ?_
          refine WH.yd (i := 5) (by kernel_rfl) (fun _ o v c a w _ h => (QuietPanic.blk (QuietPanic.then (QuietPanic.then (QuietPanic.blk (QuietPanic.then QuietPanic.body))))) c o.dst v a w h) rfl (Yd.move rfl) rfl ?_
          refine WH.yd (i := 8) (by kernel_rfl) (fun _ o v c a w _ h => (QuietPanic.blk (QuietPanic.then (QuietPanic.then (QuietPanic.blk (QuietPanic.then QuietPanic.body))))) c o.dst v a w h) rfl (Yd.move rfl) rfl ?_
          refine WH.two (i := 2) (j := 6) (by kernel_rfl) ?_ ?_
          · refine WHo.so rfl (SO.buildSlice0 Try.underlying52 Try.sizeOf3) rfl ?_
            rintro _ _ _ ⟨b51, hb51, rfl, rfl, rfl⟩
            refine ⟨(fun _ hI => hI.pick 2 rfl), ?_⟩
            refine WH.two (i := 4) (j := 6) (by kernel_rfl) ?_ ?_
            · refine WHo.so rfl (SO.appendAll (f := intC) (l := b) (m := 1) intC_len intC_ones [] _ rfl rfl Try.underlying52 Try.sizeOf3 Try.typeInfo3 Try.zeroValue3 rfl rfl rfl rfl hb51 (hS3.ext hX1) (by show (2 * (_ + _) + 1000) * 8 ≤ 2 ^ 48; omega) (by omega)) rfl ?_
              rintro _ _ _ ⟨u53, hu53, rfl, rfl, rfl⟩
              refine ⟨(fun _ hI => hI.pick 2 rfl), ?_⟩
              refine WH.one (i := 6) (by kernel_rfl) (WHo.so rfl (SO.buildSlice Try.underlying52 Try.sizeOf3 Try.zeroValue3 rfl rfl rfl rfl (cs := [_]) rfl) rfl ?_)
              rintro _ _ _ ⟨b55, hb55, rfl, rfl, rfl⟩
              refine ⟨(fun _ hI => hI.pick 3 rfl), ?_⟩
              refine WH.one (i := 7) (by kernel_rfl) (WHo.so rfl (SO.appendOw (o := some u53) (len := b.length) (n := 1) (xs := b.flatMap intC) (ys := intC ((spanAt p b.length).lo + (k : Int))) (size := 1) [] [_] _ rfl rfl Try.underlying52 Try.sizeOf3 Try.typeInfo3 Try.zeroValue3 rfl rfl rfl rfl ⟨rfl, .inr ⟨_, _, _, rfl, RdN.own (k := 0) (n := 1) rfl rfl⟩⟩ (oneB_spec rfl) hu53 (flat_len intC_len _) (by omega) (by show (2 * (_ + _) + 1000) * 8 ≤ 2 ^ 48; omega) (by omega)) rfl ?_)
              rintro _ _ _ ⟨u56, hu56, rfl, rfl, rfl⟩
              have hbu56 := hu56.1
              refine ⟨(fun _ hI => hI.pick 3 rfl), ?_⟩
              refine WH.freezeK 1 rfl (fun hnu56 => ?_)
              have hFu56 := fun o => (DExt.refl w D1).add (o := o) hnu56 hbu56
              have hXf := fun o => hX1.trans (hFu56 o) (Nat.le_refl _)
              refine WH.one (i := 9) (by kernel_rfl) (WHo.so rfl (SO.altersN (own := [_, _, _]) (hpc := owH o1 52 vs1 []) (S1 := keys (owH o1 52 vs1 [])) (fun e he => he) (fun h => h) (fun _ h => h) (fun _ h => h) (Enters.func Try.call109 rfl) (fun w1 hI => ih _ w1 (hR.ext (hXf _)) (b ++ [(spanAt p b.length).lo + (k : Int)]) _ _ _ _ vs1 o1 (by rw [List.length_append, List.length_singleton]; omega) (ints_snoc (Imm.add_self _ _ _)) (hO1.ext (hFu56 _)) ho1 (accT_le hv s rem b L (by omega) (by omega) hL) hI)) rfl ?_)
              rintro _ D6 _ ⟨_, hX6, ⟨vs6, o6, rfl, hO6, ho6, rfl⟩, rfl⟩
              refine ⟨(fun _ hI => (hI.pick 2 rfl).shrink ((hFu56 _).trans hX6 (Nat.le_refl _)).old), ?_⟩
              refine WH.yd (i := 10) (by kernel_rfl) (fun _ o v c a w _ h => (QuietPanic.blk (QuietPanic.then (QuietPanic.then (QuietPanic.blk (QuietPanic.then QuietPanic.body))))) c o.dst v a w h) rfl (Yd.assign rfl) rfl ?_
              refine WH.nil (by kernel_rfl) ?_
              refine WP.blkNormal ?_
              refine WP.thenC ?_
              refine WC.ofFr [(3, _), (1, _), (2, _), (4, _), (10, _), (11, _)] ⟨rfl, rfl, rfl, rfl, rfl, rfl, trivial⟩ ?_
              refine WC.region ?_
              refine WL.yd (Yd.move rfl) rfl ?_
              refine WL.yd (Yd.add rfl rfl (wr64 ⟨by omega, by omega⟩)) rfl ?_
              refine WL.yd (Yd.assign rfl) rfl ?_
              refine WL.nil ?_
              refine WP.again (⟨k + 1, vs6, o6, D6⟩ : Nat × List Value × Option Ow × Imm) ⟨by simp only; omega, (hXf _).trans hX6 (Nat.le_refl _), by rw [accT_succ]; exact hO6, ho6⟩ (by simp only; omega) (fun aa ww h => ?_)
              show At _ [(1, nt s), (2, .slice a3 b.length c3), (3, owV o6 (vs6).length), (4, pt b4), (10, pt b10), (11, it ((spanAt p b.length).lo + (((k + 1 : Nat) : Int) : Int)))] D6 ((b10, .cells (List.toArray [it (spanAt p b.length).lo, it (spanAt p b.length).hi]) 23 (0, 0)) :: (b4, .cells (List.toArray [it p.post.lo, it p.post.hi, .slice a1 p.bathers.length c1, .slice a2 p.claims.length c2]) 27 (0, 0)) :: owH o6 52 (vs6) []) aa ww
              rw [show (spanAt p b.length).lo + (((k + 1 : Nat) : Int) : Int) = (spanAt p b.length).lo + (k : Int) + 1 by omega]
              exact at_less h ⟨rfl, rfl, rfl, rfl, rfl, rfl, trivial⟩ (fun _ h => .tail _ (h)) (fun h => (List.nodup_cons.1 h).2)
            · refine WHo.so rfl (SO.buildSlice Try.underlying52 Try.sizeOf3 Try.zeroValue3 rfl rfl rfl rfl (cs := [_]) rfl) rfl ?_
              rintro _ _ _ ⟨b55, hb55, rfl, rfl, rfl⟩
              refine ⟨(fun _ hI => hI.pick 3 rfl), ?_⟩
              refine WH.one (i := 4) (by kernel_rfl) (WHo.so rfl (SO.appendAll (f := intC) (l := b) (m := 1) intC_len intC_ones [_] _ rfl rfl Try.underlying52 Try.sizeOf3 Try.typeInfo3 Try.zeroValue3 rfl rfl rfl rfl hb51 (hS3.ext hX1) (by show (2 * (_ + _) + 1000) * 8 ≤ 2 ^ 48; omega) (by omega)) rfl ?_)
              rintro _ _ _ ⟨u53, hu53, rfl, rfl, rfl⟩
              refine ⟨(fun _ hI => hI.pick 3 rfl), ?_⟩
              refine WH.one (i := 7) (by kernel_rfl) (WHo.so rfl (SO.appendOw (o := some u53) (len := b.length) (n := 1) (xs := b.flatMap intC) (ys := intC ((spanAt p b.length).lo + (k : Int))) (size := 1) [] [_] _ rfl rfl Try.underlying52 Try.sizeOf3 Try.typeInfo3 Try.zeroValue3 rfl rfl rfl rfl ⟨rfl, .inr ⟨_, _, _, rfl, RdN.own (k := 0) (n := 1) rfl rfl⟩⟩ (oneB_spec rfl) hu53 (flat_len intC_len _) (by omega) (by show (2 * (_ + _) + 1000) * 8 ≤ 2 ^ 48; omega) (by omega)) rfl ?_)
              rintro _ _ _ ⟨u56, hu56, rfl, rfl, rfl⟩
              have hbu56 := hu56.1
              refine ⟨(fun _ hI => hI.pick 3 rfl), ?_⟩
              refine WH.freezeK 1 rfl (fun hnu56 => ?_)
              have hFu56 := fun o => (DExt.refl w D1).add (o := o) hnu56 hbu56
              have hXf := fun o => hX1.trans (hFu56 o) (Nat.le_refl _)
              refine WH.one (i := 9) (by kernel_rfl) (WHo.so rfl (SO.altersN (own := [_, _, _]) (hpc := owH o1 52 vs1 []) (S1 := keys (owH o1 52 vs1 [])) (fun e he => he) (fun h => h) (fun _ h => h) (fun _ h => h) (Enters.func Try.call109 rfl) (fun w1 hI => ih _ w1 (hR.ext (hXf _)) (b ++ [(spanAt p b.length).lo + (k : Int)]) _ _ _ _ vs1 o1 (by rw [List.length_append, List.length_singleton]; omega) (ints_snoc (Imm.add_self _ _ _)) (hO1.ext (hFu56 _)) ho1 (accT_le hv s rem b L (by omega) (by omega) hL) hI)) rfl ?_)
              rintro _ D6 _ ⟨_, hX6, ⟨vs6, o6, rfl, hO6, ho6, rfl⟩, rfl⟩
              refine ⟨(fun _ hI => (hI.pick 2 rfl).shrink ((hFu56 _).trans hX6 (Nat.le_refl _)).old), ?_⟩
              refine WH.yd (i := 10) (by kernel_rfl) (fun _ o v c a w _ h => (QuietPanic.blk (QuietPanic.then (QuietPanic.then (QuietPanic.blk (QuietPanic.then QuietPanic.body))))) c o.dst v a w h) rfl (Yd.assign rfl) rfl ?_
              refine WH.nil (by kernel_rfl) ?_
              refine WP.blkNormal ?_
              refine WP.thenC ?_
              refine WC.ofFr [(3, _), (1, _), (2, _), (4, _), (10, _), (11, _)] ⟨rfl, rfl, rfl, rfl, rfl, rfl, trivial⟩ ?_
              refine WC.region ?_
              refine WL.yd (Yd.move rfl) rfl ?_
              refine WL.yd (Yd.add rfl rfl (wr64 ⟨by omega, by omega⟩)) rfl ?_
              refine WL.yd (Yd.assign rfl) rfl ?_
              refine WL.nil ?_
              refine WP.again (⟨k + 1, vs6, o6, D6⟩ : Nat × List Value × Option Ow × Imm) ⟨by simp only; omega, (hXf _).trans hX6 (Nat.le_refl _), by rw [accT_succ]; exact hO6, ho6⟩ (by simp only; omega) (fun aa ww h => ?_)
              show At _ [(1, nt s), (2, .slice a3 b.length c3), (3, owV o6 (vs6).length), (4, pt b4), (10, pt b10), (11, it ((spanAt p b.length).lo + (((k + 1 : Nat) : Int) : Int)))] D6 ((b10, .cells (List.toArray [it (spanAt p b.length).lo, it (spanAt p b.length).hi]) 23 (0, 0)) :: (b4, .cells (List.toArray [it p.post.lo, it p.post.hi, .slice a1 p.bathers.length c1, .slice a2 p.claims.length c2]) 27 (0, 0)) :: owH o6 52 (vs6) []) aa ww
              rw [show (spanAt p b.length).lo + (((k + 1 : Nat) : Int) : Int) = (spanAt p b.length).lo + (k : Int) + 1 by omega]
              exact at_less h ⟨rfl, rfl, rfl, rfl, rfl, rfl, trivial⟩ (fun _ h => .tail _ (h)) (fun h => (List.nodup_cons.1 h).2)
          · refine WHo.so rfl (SO.buildSlice Try.underlying52 Try.sizeOf3 Try.zeroValue3 rfl rfl rfl rfl (cs := [_]) rfl) rfl ?_
            rintro _ _ _ ⟨b55, hb55, rfl, rfl, rfl⟩
            refine ⟨(fun _ hI => hI.pick 2 rfl), ?_⟩
            refine WH.one (i := 2) (by kernel_rfl) (WHo.so rfl (SO.buildSlice0 Try.underlying52 Try.sizeOf3) rfl ?_)
            rintro _ _ _ ⟨b51, hb51, rfl, rfl, rfl⟩
            refine ⟨(fun _ hI => hI.pick 3 rfl), ?_⟩
            refine WH.one (i := 4) (by kernel_rfl) (WHo.so rfl (SO.appendAll (f := intC) (l := b) (m := 1) intC_len intC_ones [] _ rfl rfl Try.underlying52 Try.sizeOf3 Try.typeInfo3 Try.zeroValue3 rfl rfl rfl rfl hb51 (hS3.ext hX1) (by show (2 * (_ + _) + 1000) * 8 ≤ 2 ^ 48; omega) (by omega)) rfl ?_)
            rintro _ _ _ ⟨u53, hu53, rfl, rfl, rfl⟩
            refine ⟨(fun _ hI => hI.pick 3 rfl), ?_⟩
            refine WH.one (i := 7) (by kernel_rfl) (WHo.so rfl (SO.appendOw (o := some u53) (len := b.length) (n := 1) (xs := b.flatMap intC) (ys := intC ((spanAt p b.length).lo + (k : Int))) (size := 1) [] [] _ rfl rfl Try.underlying52 Try.sizeOf3 Try.typeInfo3 Try.zeroValue3 rfl rfl rfl rfl ⟨rfl, .inr ⟨_, _, _, rfl, RdN.own (k := 1) (n := 1) rfl rfl⟩⟩ (oneB_spec rfl) hu53 (flat_len intC_len _) (by omega) (by show (2 * (_ + _) + 1000) * 8 ≤ 2 ^ 48; omega) (by omega)) rfl ?_)
            rintro _ _ _ ⟨u56, hu56, rfl, rfl, rfl⟩
            have hbu56 := hu56.1
            refine ⟨(fun _ hI => hI.pick 3 rfl), ?_⟩
            refine WH.freezeK 0 rfl (fun hnu56 => ?_)
            have hFu56 := fun o => (DExt.refl w D1).add (o := o) hnu56 hbu56
            have hXf := fun o => hX1.trans (hFu56 o) (Nat.le_refl _)
            refine WH.one (i := 9) (by kernel_rfl) (WHo.so rfl (SO.altersN (own := [_, _, _]) (hpc := owH o1 52 vs1 []) (S1 := keys (owH o1 52 vs1 [])) (fun e he => he) (fun h => h) (fun _ h => h) (fun _ h => h) (Enters.func Try.call109 rfl) (fun w1 hI => ih _ w1 (hR.ext (hXf _)) (b ++ [(spanAt p b.length).lo + (k : Int)]) _ _ _ _ vs1 o1 (by rw [List.length_append, List.length_singleton]; omega) (ints_snoc (Imm.add_self _ _ _)) (hO1.ext (hFu56 _)) ho1 (accT_le hv s rem b L (by omega) (by omega) hL) hI)) rfl ?_)
            rintro _ D6 _ ⟨_, hX6, ⟨vs6, o6, rfl, hO6, ho6, rfl⟩, rfl⟩
            refine ⟨(fun _ hI => (hI.pick 2 rfl).shrink ((hFu56 _).trans hX6 (Nat.le_refl _)).old), ?_⟩
            refine WH.yd (i := 10) (by kernel_rfl) (fun _ o v c a w _ h => (QuietPanic.blk (QuietPanic.then (QuietPanic.then (QuietPanic.blk (QuietPanic.then QuietPanic.body))))) c o.dst v a w h) rfl (Yd.assign rfl) rfl ?_
            refine WH.nil (by kernel_rfl) ?_
            refine WP.blkNormal ?_
            refine WP.thenC ?_
            refine WC.ofFr [(3, _), (1, _), (2, _), (4, _), (10, _), (11, _)] ⟨rfl, rfl, rfl, rfl, rfl, rfl, trivial⟩ ?_
            refine WC.region ?_
            refine WL.yd (Yd.move rfl) rfl ?_
            refine WL.yd (Yd.add rfl rfl (wr64 ⟨by omega, by omega⟩)) rfl ?_
            refine WL.yd (Yd.assign rfl) rfl ?_
            refine WL.nil ?_
            refine WP.again (⟨k + 1, vs6, o6, D6⟩ : Nat × List Value × Option Ow × Imm) ⟨by simp only; omega, (hXf _).trans hX6 (Nat.le_refl _), by rw [accT_succ]; exact hO6, ho6⟩ (by simp only; omega) (fun aa ww h => ?_)
            show At _ [(1, nt s), (2, .slice a3 b.length c3), (3, owV o6 (vs6).length), (4, pt b4), (10, pt b10), (11, it ((spanAt p b.length).lo + (((k + 1 : Nat) : Int) : Int)))] D6 ((b10, .cells (List.toArray [it (spanAt p b.length).lo, it (spanAt p b.length).hi]) 23 (0, 0)) :: (b4, .cells (List.toArray [it p.post.lo, it p.post.hi, .slice a1 p.bathers.length c1, .slice a2 p.claims.length c2]) 27 (0, 0)) :: owH o6 52 (vs6) []) aa ww
            rw [show (spanAt p b.length).lo + (((k + 1 : Nat) : Int) : Int) = (spanAt p b.length).lo + (k : Int) + 1 by omega]
            exact at_less h ⟨rfl, rfl, rfl, rfl, rfl, rfl, trivial⟩ (fun _ h => .tail _ (h)) (fun h => (List.nodup_cons.1 h).2)
        · try simp only [zq1, zq2, zq3, zq4, zq5, zq6, zq7, zq8] at c46
          obtain rfl : k = wide p b.length := by omega
          refine WC.exit ?_
          refine WP.thenExit ?_
          refine WP.thenExit ?_
          refine WP.blkHit ?_
          refine WP.thenC ?_
          refine WC.seq ?_
          refine WC.ofFr [(3, _)] ⟨rfl, trivial⟩ ?_
          refine WC.region ?_
          refine WL.yd (Yd.move rfl) rfl ?_
          refine WL.yd (Yd.assign rfl) rfl ?_
          refine WL.nil ?_
          refine WP.thenC ?_
          refine WC.ret ?_
          refine WP.ret1 rfl rfl Try.results109 (RV.tmp rfl) (fun w1 hI => ⟨_, _, _, rfl, hX1, hI.tail.tail, vs1, o1, rfl, by rw [show truC p s (rem + 1) b = (List.range (wide p b.length)).flatMap fun (i : Nat) => truC p s rem (b ++ [(spanAt p b.length).lo + (i : Int)]) from if_pos hrt]; exact hO1, ho1, rfl⟩)
      · skip
        refine WC.seq ?_
        refine WC.ofFr [(10, _), (9, _), (8, _), (4, _), (1, _), (2, _), (3, _)] ⟨rfl, rfl, rfl, rfl, rfl, rfl, rfl, trivial⟩ ?_
        refine WC.region ?_
        refine WL.yd (Yd.move rfl) rfl ?_
        refine WL.yd (Yd.gtr rfl rfl) rfl ?_
        refine WL.nil ?_
        refine WP.thenC ?_
        refine WC.cond rfl (fun c33 => ?_) (fun c33 => ?_)
        · try simp only [zq1, zq2, zq3, zq4, zq5, zq6, zq7, zq8] at c33
          refine WC.ofFr [(10, _), (9, _), (8, _), (4, _), (1, _), (2, _), (3, _)] ⟨rfl, rfl, rfl, rfl, rfl, rfl, rfl, trivial⟩ ?_
          refine WC.region ?_
          refine WL.yd (Yd.fieldAddr FA27_1 rfl) rfl ?_
          refine WL.yd (Yd.load1 Try.isAgg24 rfl (by first | exact Rd.own (k := 0) rfl rfl | exact Rd.own (k := 1) rfl rfl | exact Rd.own (k := 2) rfl rfl)) rfl ?_
          refine WL.yd (Yd.move rfl) rfl ?_
          refine WL.yd (Yd.subN (j := 1) rfl rfl (by omega) (by omega)) rfl ?_
          refine WL.yd (Yd.indexS Try.underlying24 Try.sizeOf56 rfl rfl (by omega) (by omega) (by first | exact hR.bath.addr (b.length - 1) (by omega))) rfl ?_
          refine WL.yd (Yd.fieldAddr FA56_1 rfl) rfl ?_
          refine WL.yd (Yd.loadN Try.isAgg23 Try.sizeOf23 rfl (vs := [_, _]) rfl (by first | exact RdN.own (k := 0) (n := 2) rfl rfl | exact RdN.own (k := 1) (n := 2) rfl rfl | exact RdN.own (k := 2) (n := 2) rfl rfl | exact ((hR.bath.at (b.length - 1) (by omega)).rdn 1 2 rfl))) rfl ?_
          refine WL.so (SO.store 0 rfl Try.sizeOf23 rfl rfl rfl rfl (Nat.le_of_ble_eq_true rfl) (oneB_spec rfl)) rfl ?_
          rintro _ _ _ ⟨rfl, rfl, rfl⟩
          refine WL.nil ?_
          first
            | (have es : (spanAt p b.length) = p.post := by
                 have : b.length = 0 := by omega
                 rw [this]; rfl
               refine WP.join () trivial (fun aa ww h => ?_)
               rw [es]
               exact at_fr h ⟨rfl, rfl, rfl, rfl, rfl, trivial⟩)
            | (have es : (spanAt p b.length) = (gt p.bathers (b.length - 1)).place := by
                 obtain ⟨m, hm⟩ : ∃ m, b.length = m + 1 := ⟨b.length - 1, by omega⟩
                 rw [hm]; rfl
               refine WP.join () trivial (fun aa ww h => ?_)
               rw [es]
               exact at_fr h ⟨rfl, rfl, rfl, rfl, rfl, trivial⟩)
        · try simp only [zq1, zq2, zq3, zq4, zq5, zq6, zq7, zq8] at c33
          refine WC.skip ?_
          first
            | (have es : (spanAt p b.length) = p.post := by
                 have : b.length = 0 := by omega
                 rw [this]; rfl
               refine WP.join () trivial (fun aa ww h => ?_)
               rw [es]
               exact at_fr h ⟨rfl, rfl, rfl, rfl, rfl, trivial⟩)
            | (have es : (spanAt p b.length) = (gt p.bathers (b.length - 1)).place := by
                 obtain ⟨m, hm⟩ : ∃ m, b.length = m + 1 := ⟨b.length - 1, by omega⟩
                 rw [hm]; rfl
               refine WP.join () trivial (fun aa ww h => ?_)
               rw [es]
               exact at_fr h ⟨rfl, rfl, rfl, rfl, rfl, trivial⟩)

theorem truths_g (p : Post) (s : Nat) (hs : s ≤ 1000) (hv : postB p = true) (a1 : Option Addr) (n1 c1 : Nat) (a2 : Option Addr) (n2 c2 : Nat) : ∀ (rem : Nat) (D : Imm) (w : World) (hR : PostR D p a1 n1 a2 n2) (b : List Int) (a3 : Option Addr) (n3 c3 : Nat) (L : List (List Int)) (vs : List Value) (o : Option Ow) (hl : b.length + rem = p.bathers.length + 1) (hS3 : SlL D 1 (b.map intC) a3 n3) (hO : OutT D L vs) (ho : owL o vs.length 1) (hL : L.length + 41 ^ rem ≤ 4750104241) (hI0 : Inv D (owH o 52 vs []) (keys (owH o 52 vs [])) w w), AltersN Try.prog 109 [.agg #[it p.post.lo, it p.post.hi, .slice a1 n1 c1, .slice a2 n2 c2], nt s, .slice a3 n3 c3, owV o vs.length] w D (keys (owH o 52 vs [])) (TrK p s rem b L) := by
  intro rem
  induction rem with
  | zero => exact truths_0 p s hs hv a1 n1 c1 a2 n2 c2
  | succ rem ih => exact truths_s p s hs hv a1 n1 c1 a2 n2 c2 rem ih
structure TruM (D : Imm) (L : List (List Int)) (a : Option Addr) (n : Nat) : Prop where
  len : n = L.length
  at_ : ∀ i, i < n → a = some ⟨sb a, so a, none⟩ ∧ ∃ a' n' c', RdD D (sb a) (so a + i * 1) [.slice a' n' c'] ∧ SlL D 1 ((gt L i).map intC) a' n'
theorem TruM.ext {w : World} {D D' : Imm} {L : List (List Int)} {a : Option Addr} {n : Nat} (h : TruM D L a n) (hX : DExt w D D') : TruM D' L a n :=
  ⟨h.len, fun i hi => let ⟨h1, a', n', c', h2, h3⟩ := h.at_ i hi; ⟨h1, a', n', c', h2.ext hX, h3.ext hX⟩⟩
theorem truM_g (p : Post) (s : Nat) (hs : s ≤ 1000) (hv : postB p = true) (a1 : Option Addr) (n1 c1 : Nat) (a2 : Option Addr) (n2 c2 : Nat) (D : Imm) (w : World) (hR : PostR D p a1 n1 a2 n2) (hH : Holds D w) :
    Makes Try.prog 109 [.agg #[it p.post.lo, it p.post.hi, .slice a1 n1 c1, .slice a2 n2 c2], nt s, .slice none 0 0, .slice none 0 0] w D (fun v D' => ∃ a n c, v = .slice a n c ∧ TruM D' (truC p s (p.bathers.length + 1) []) a n ∧ n ≤ 4750104241) := by
  have hn := (post_num hv).2.1
  have h5 : 41 ^ (p.bathers.length + 1) ≤ 41 ^ 6 := Nat.pow_le_pow_right (by omega) (by omega)
  refine Calls.mono (truths_g p s hs hv a1 n1 c1 a2 n2 c2 (p.bathers.length + 1) D w hR [] none 0 0 [] [] none (by simp) ⟨rfl, fun i r hr => by simp at hr⟩ (OutT.nil D) rfl (by simpa using h5) (Inv.start hH)) fun e w' ⟨v, D', hpc', he, hX, hI, vs', o', hv', hO, ho, hhp⟩ => ?_
  rw [List.nil_append] at hO
  have hle : (truC p s (p.bathers.length + 1) []).length ≤ 4750104241 := Nat.le_trans (tr_le hv s _ _ (by simp)) h5
  have hlen := hO.len
  subst he
  subst hhp
  cases o' with
  | none =>
    have h0 : vs'.length = 0 := ho
    refine ⟨_, D', rfl, hI.keep, hI.imm, hX, none, 0, 0, by rw [hv', h0]; rfl, ⟨by omega, fun i hi => by omega⟩, by omega⟩
  | some u =>
    have hub : w.heap.size ≤ u.b := (hI.may _ _ (List.mem_of_getElem? (i := 0) rfl)).resolve_left (fun h => by simp [owH, keys] at h)
    have hnu := hI.apart _ _ (List.mem_of_getElem? (i := 0) rfl)
    have hXu := fun o => (DExt.refl w D').add (o := o) hnu hub
    refine ⟨_, _, rfl, hI.keep, hI.freeze.imm, hX.trans (hXu _) (Nat.le_refl _), some ⟨u.b, 0, none⟩, vs'.length, u.cap, hv', ⟨hlen, fun i hi => ⟨rfl, ?_⟩⟩, by omega⟩
    obtain ⟨a', n', c', h1, h2⟩ := hO.at_ i (by omega)
    refine ⟨a', n', c', ⟨_, _, _, Imm.add_self _ _ _, fun j v hj => ?_⟩, h2.ext (hXu _)⟩
    cases j with
    | zero =>
      cases hj
      show (vs' ++ u.rest)[0 + i * 1 + 0]? = _
      rw [show 0 + i * 1 + 0 = i by omega, List.getElem?_append_left (by omega)]
      exact h1
    | succ j => simp at hj

end Go.Proofs.Ytkhmmefgllbobaa
