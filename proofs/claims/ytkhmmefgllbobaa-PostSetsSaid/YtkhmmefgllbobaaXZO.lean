import Derived.Test.YtkhmmefgllbobaaXQ
set_option linter.unusedSimpArgs false
set_option linter.unusedVariables false
set_option linter.all false
set_option maxRecDepth 100000
set_option maxHeartbeats 1000000
/- What is told, by claims more and places known. No program in sight. -/
namespace Go.Proofs.Ytkhmmefgllbobaa
open Go.W Go.Po
theorem nat_one {n : Nat} : ((n : Nat) : Int) = 1 ↔ n = 1 := by omega
theorem beq_iff' {P Q : Prop} [Decidable P] [Decidable Q] (h : P ↔ Q) : (decide P == decide Q) = true := by
  by_cases hp : P
  · rw [decide_eq_true hp, decide_eq_true (h.1 hp)]; rfl
  · rw [decide_eq_false hp, decide_eq_false (fun hq => hp (h.2 hq))]; rfl
theorem bne_iff' {P Q : Prop} [Decidable P] [Decidable Q] (h : P ↔ Q) : (decide P != decide Q) = false := by
  unfold bne; rw [beq_iff' h]; rfl
theorem bne_and {P A B : Prop} [Decidable P] [Decidable A] [Decidable B] (h : P ↔ A ∧ B) : (decide P != (decide A && decide B)) = false := by
  rw [← Bool.decide_and]; exact bne_iff' h
theorem place_bad {p : Post} (hv : postB p = true) (hok : okA p = false) {a : Int} (ha : whoP p a = true) : PlaceOut p a = (⟨0, 0⟩, 10) := by
  unfold PlaceOut; rw [told_bad hv hok ha]; rfl
theorem before_bad {p : Post} (hv : postB p = true) (hok : okA p = false) {a b : Int} (ha : whoP p a = true) (hb : whoP p b = true) : BeforeOut p a b = (0, 10) := by
  unfold BeforeOut; rw [told_bad hv hok (and_t ha hb)]; rfl
theorem near_bad {p : Post} (hv : postB p = true) (hok : okA p = false) {a b : Int} (ha : whoP p a = true) (hb : whoP p b = true) : NearOut p a b = (⟨0, 0⟩, 10) := by
  unfold NearOut; rw [told_bad hv hok (and_t ha hb)]; rfl
theorem breaks_bad {p : Post} (hv : postB p = true) (hok : okA p = false) : BreaksOut p = (0, 0, 10) := by
  unfold BreaksOut; rw [told_bad hv hok rfl]; rfl
theorem kept_bad {p : Post} (hv : postB p = true) (hok : okA p = false) : KeptOut p = (0, 10) := by
  unfold KeptOut; rw [told_bad hv hok rfl]; rfl
theorem few_bad {p : Post} (hv : postB p = true) (hok : okA p = false) : FewestOut p = (⟨0, 0⟩, 10) := by
  unfold FewestOut; rw [told_bad hv hok rfl]; rfl
theorem place_range {p : Post} (hv : postB p = true) {a : Int} (ha : whoP p a = false) : PlaceOut p a = (⟨0, 0⟩, 2) := by
  unfold PlaceOut; rw [ha, told_range hv]; rfl
theorem before_range {p : Post} (hv : postB p = true) {a b : Int} (ha : (whoP p a && whoP p b) = false) : BeforeOut p a b = (0, 2) := by
  unfold BeforeOut; rw [ha, told_range hv]; rfl
theorem near_range {p : Post} (hv : postB p = true) {a b : Int} (ha : (whoP p a && whoP p b) = false) : NearOut p a b = (⟨0, 0⟩, 2) := by
  unfold NearOut; rw [ha, told_range hv]; rfl
theorem clash_err {p : Post} (hv : postB p = true) : (ClashOut p).2 = if okA p = true then 4 else 0 := by
  unfold ClashOut; rw [if_neg (by rw [hv]; simp)]
  split <;> rfl
theorem clash_is4 {p : Post} (hv : postB p = true) : (ClashOut p).2 = 4 ↔ ∃ x, Sol p (allR p) x := by
  rw [clash_err hv, ← ok_iff hv]
  split <;> simp_all
theorem clash_is0 {p : Post} (hv : postB p = true) : (ClashOut p).2 = 0 ↔ ¬ ∃ x, Sol p (allR p) x := by
  rw [clash_err hv, ← ok_iff hv]
  split <;> simp_all
theorem own_in {p : Post} (hv : postB p = true) (hok : okA p = true) {a : Int} (ha : whoP p a = true) : -GA p (ix a) 0 ≤ GA p 0 (ix a) ∧ (ownS p a).lo ≤ -GA p (ix a) 0 ∧ GA p 0 (ix a) ≤ (ownS p a).hi ∧ 0 ≤ (ownS p a).lo ∧ (ownS p a).hi ≤ 40 := by
  obtain ⟨x, hx⟩ := (ok_iff hv).1 hok
  have h1 := (place_in hv hok ha _).2 ⟨x, hx, rfl⟩
  have hi := (ix_who ha).1
  obtain ⟨y, hy, ey⟩ := (place_in hv hok ha (-GA p (ix a) 0)).1 ⟨Int.le_refl _, by omega⟩
  obtain ⟨z, hz, ez⟩ := (place_in hv hok ha (GA p 0 (ix a))).1 ⟨by omega, Int.le_refl _⟩
  have h2 := hy.place _ hi
  have h3 := hz.place _ hi
  have h4 := place_num hv hi
  rw [own_place ha] at h2 h3 h4
  omega
theorem spot_clash {p : Post} (hv : postB p = true) (hok : okA p = true) {a k : Int} (ha : whoP p a = true) (hk : (ownS p a).lo ≤ k ∧ k ≤ (ownS p a).hi) : (ClashOut (spotP p a k)).2 = 4 ↔ (-GA p (ix a) 0 ≤ k ∧ k ≤ GA p 0 (ix a)) := by
  have h0 := own_in hv hok ha
  rw [clash_is4 (spot_ok hv ha ⟨by omega, by omega⟩), place_in hv hok ha]
  exact exists_congr fun x => sol_spot ha hk
theorem cok_not {x : Nat → Int} {a b : Int} : COk x ⟨a, b, true⟩ ↔ ¬ x (ix a) < x (ix b) := by rw [cok_iff]; simp
theorem cok_bef {x : Nat → Int} {a b : Int} : COk x ⟨a, b, false⟩ ↔ x (ix a) < x (ix b) := by rw [cok_iff]; simp
theorem with_clash0 {p : Post} (hv : postB p = true) (h7 : p.claims.length ≤ 7) {c : PClaim} (hc : claimP p c = true) : (ClashOut (withP p c)).2 = 0 ↔ ¬ ∃ x, Sol p (allR p) x ∧ COk x c := by
  rw [clash_is0 (with_ok hv h7 hc)]
  exact not_congr (exists_congr fun x => sol_with)
theorem with_clash4 {p : Post} (hv : postB p = true) (h7 : p.claims.length ≤ 7) {c : PClaim} (hc : claimP p c = true) : (ClashOut (withP p c)).2 = 4 ↔ ∃ x, Sol p (allR p) x ∧ COk x c := by
  rw [clash_is4 (with_ok hv h7 hc)]
  exact exists_congr fun x => sol_with
def befG (p : Post) (a b : Int) : Int := gradeI (decide (0 < GA p (ix a) (ix b))) (decide (-GA p (ix b) (ix a) ≤ 0))
theorem bef_is2 {p : Post} (hv : postB p = true) (hok : okA p = true) {a b : Int} (ha : whoP p a = true) (hb : whoP p b = true) : befG p a b = 2 ↔ ¬ ∃ x, Sol p (allR p) x ∧ ¬ x (ix a) < x (ix b) := by
  unfold befG
  rw [grade_two, decide_eq_false_iff_not, before_not hv hok ha hb]
theorem bef_is0 {p : Post} (hv : postB p = true) (hok : okA p = true) {a b : Int} (ha : whoP p a = true) (hb : whoP p b = true) : befG p a b = 0 ↔ ¬ ∃ x, Sol p (allR p) x ∧ x (ix a) < x (ix b) := by
  unfold befG
  rw [grade_zero, decide_eq_false_iff_not, before_some hv hok ha hb, decide_eq_true_eq, before_not hv hok ha hb]
  constructor
  · exact fun h => h.2
  · intro h
    refine ⟨?_, h⟩
    obtain ⟨x, hx⟩ := (ok_iff hv).1 hok
    exact ⟨x, hx, fun hl => h ⟨x, hx, hl⟩⟩
theorem places_not {p : Post} (hv : postB p = true) (hok : okA p = true) (h7 : p.claims.length ≤ 7) {a b : Int} (ha : whoP p a = true) (hb : whoP p b = true) : befG p a b = 2 ↔ (ClashOut (withP p ⟨a, b, true⟩)).2 = 0 := by
  rw [bef_is2 hv hok ha hb, with_clash0 hv h7 (and_t ha hb)]
  simp only [cok_not]
theorem places_bef {p : Post} (hv : postB p = true) (hok : okA p = true) (h7 : p.claims.length ≤ 7) {a b : Int} (ha : whoP p a = true) (hb : whoP p b = true) : befG p a b = 0 ↔ (ClashOut (withP p ⟨a, b, false⟩)).2 = 0 := by
  rw [bef_is0 hv hok ha hb, with_clash0 hv h7 (and_t ha hb)]
  simp only [cok_bef]
end Go.Proofs.Ytkhmmefgllbobaa
