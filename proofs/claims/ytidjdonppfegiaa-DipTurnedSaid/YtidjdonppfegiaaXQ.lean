import Derived.Test.YtidjdonppfegiaaXE
import Derived.Test.YtidjdonppfegiaaXG
import Derived.Test.YtidjdonppfegiaaXP
set_option linter.unusedSimpArgs false
set_option linter.unusedVariables false
set_option linter.all false
/- The plans of the document, and that the search finds the first of them. -/
namespace Go.Proofs.Ytidjdonppfegiaa
open Go.W Go.Dp
theorem gt_app_lt {α : Type} [Inhabited α] (b t : List α) (i : Nat) (h : i < b.length) : gt (b ++ t) i = gt b i := by
  simp [gt, List.getD, List.getElem?_append_left h]
theorem gt_app_at {α : Type} [Inhabited α] (b : List α) (x : α) : gt (b ++ [x]) b.length = x := by
  simp [gt, List.getD]
theorem leftR_congr {d : Dips} {p p' : List Plc} (best : Bool) (x : Plc) : ∀ k, (∀ j, j < k → gt p j = gt p' j) → leftR d p best x k = leftR d p' best x k := by
  intro k
  induction k with
  | zero => intro _; rfl
  | succ k ih => intro h; simp only [leftR]; rw [ih (fun j hj => h j (by omega)), h k (by omega)]
theorem brokenR_congr {d : Dips} {p p' : List Plc} (best : Bool) {i : Nat} (h : ∀ j, j ≤ i → gt p j = gt p' j) : brokenR d p i best = brokenR d p' i best := by
  unfold brokenR
  rw [h i (Nat.le_refl _), leftR_congr best (gt p' i) (i + 1) (fun j hj => h j (by omega))]
theorem hAt_congr {d : Dips} {p p' : List Plc} (best : Bool) : ∀ k, (∀ j, j < k → gt p j = gt p' j) → hAt d p best k = hAt d p' best k := by
  intro k
  induction k with
  | zero => intro _; rfl
  | succ k ih => intro h; simp only [hAt]; rw [ih (fun j hj => h j (by omega)), h k (by omega)]
abbrev pk (hr k : Nat) : Plc := ⟨(hr : Int), (k : Int)⟩
def rowPl (d : Dips) (hr : Nat) : List Plc := (List.range d.dippers.length).map fun k => pk hr k
def allPl (d : Dips) : List Plc := (List.range d.hours.toNat).flatMap (rowPl d)
def plR (d : Dips) (best : Bool) : Nat → List Plc → List (List Plc)
  | 0, b => [b]
  | rem + 1, b => (allPl d).flatMap fun x => if brokenR d (b ++ [x]) b.length best = 0 then plR d best rem (b ++ [x]) else []
def plansR (d : Dips) (best : Bool) : List (List Plc) := plR d best d.bathers.length []
theorem mem_allPl {d : Dips} (hv : 0 ≤ d.hours) {x : Plc} : x ∈ allPl d ↔ 0 ≤ x.hour ∧ x.hour < d.hours ∧ 0 ≤ x.dipper ∧ x.dipper < d.dippers.length := by
  simp only [allPl, rowPl, List.mem_flatMap, List.mem_map, List.mem_range]
  constructor
  · rintro ⟨hr, h1, k, h2, rfl⟩
    dsimp only; omega
  · rintro ⟨h1, h2, h3, h4⟩
    refine ⟨x.hour.toNat, by omega, x.dipper.toNat, by omega, ?_⟩
    cases x; simp only [Plc.mk.injEq]; dsimp only at *; omega
theorem findSome_flatMap {α β γ : Type} (f : α → List β) (g : β → Option γ) (l : List α) : (l.flatMap f).findSome? g = l.findSome? fun x => (f x).findSome? g := by
  induction l with
  | nil => rfl
  | cons x l ih => rw [List.flatMap_cons, List.findSome?_append, ih, List.findSome?_cons]; cases (f x).findSome? g <;> rfl
theorem findSome_map' {α β γ : Type} (f : α → Option β) (g : β → γ) (l : List α) : (l.findSome? f).map g = l.findSome? fun x => (f x).map g := by
  induction l with
  | nil => rfl
  | cons x l ih => rw [List.findSome?_cons, List.findSome?_cons]; cases h : f x with
                   | none => simp only [Option.map_none]; exact ih
                   | some y => rfl
theorem findSome_congr {α β : Type} {f g : α → Option β} {l : List α} (h : ∀ x ∈ l, f x = g x) : l.findSome? f = l.findSome? g := by
  induction l with
  | nil => rfl
  | cons x l ih => rw [List.findSome?_cons, List.findSome?_cons, h x (List.mem_cons_self ..), ih (fun y hy => h y (List.mem_cons_of_mem _ hy))]
theorem findSome_map {α β γ : Type} (f : α → β) (g : β → Option γ) (l : List α) : (l.map f).findSome? g = l.findSome? fun x => g (f x) := by
  induction l with
  | nil => rfl
  | cons x l ih => rw [List.map_cons, List.findSome?_cons, List.findSome?_cons, ih]
theorem findSome_none {α β : Type} {f : α → Option β} {l : List α} (h : ∀ x ∈ l, f x = none) : l.findSome? f = none := by
  rw [findSome_congr h]; induction l with
  | nil => rfl
  | cons x l ih => rw [List.findSome?_cons]; exact ih (fun y hy => h y (List.mem_cons_of_mem _ hy))
theorem head_flatMap {α β : Type} (f : α → List β) (l : List α) : (l.flatMap f).head? = l.findSome? fun x => (f x).head? := by
  induction l with
  | nil => rfl
  | cons x l ih => rw [List.flatMap_cons, List.head?_append, ih, List.findSome?_cons]; cases (f x).head? <;> rfl
theorem hAt_le {d : Dips} (hv : dipsB d = true) (plan : List Plc) (best : Bool) : ∀ k, k ≤ d.bathers.length → ∀ a b, hAt d plan best k a b ≤ beginH d best a b := by
  intro k
  induction k with
  | zero => intro _ a b; exact Int.le_refl _
  | succ k ih =>
    intro hk a b
    have h1 := need_num hv best (i := k) (by omega)
    have h2 := ih (by omega) a b
    simp only [hAt, upd]
    split
    · rename_i e
      rw [← e.1, ← e.2]; omega
    · exact h2
theorem PlOk_snoc {d : Dips} {b : List Plc} {x : Plc} (h : PlOk d b) (hx : 0 ≤ x.hour ∧ x.hour < d.hours ∧ 0 ≤ x.dipper ∧ x.dipper < d.dippers.length) : PlOk d (b ++ [x]) := fun j hj => by
  rw [List.length_append, List.length_singleton] at hj
  by_cases e : j < b.length
  · rw [gt_app_lt _ _ _ e]; exact h j e
  · have : j = b.length := by omega
    subst this
    rw [gt_app_at]; exact hx
/-- the next one breaks no rule just if the hours are the bather's, and enough hands are left -/
theorem broken_next {d : Dips} (hv : dipsB d = true) (best : Bool) {b : List Plc} (hb : PlOk d b) (hl : b.length < d.bathers.length) {hr k : Nat} (hh : hr < d.hours.toNat) (hk : k < d.dippers.length) :
    brokenR d (b ++ [pk hr k]) b.length best = 0 ↔ (bitN (gt d.bathers b.length).hours hr ≠ 0 ∧ ¬ hAt d b best b.length hr k < need0 best (gt d.bathers b.length)) := by
  have hn := dips_num hv
  have hx : 0 ≤ (hr : Int) ∧ (hr : Int) < d.hours ∧ 0 ≤ (k : Int) ∧ (k : Int) < d.dippers.length := by omega
  have hq := PlOk_snoc hb (x := pk hr k) hx
  have e1 : gt (b ++ [pk hr k]) b.length = pk hr k := gt_app_at b _
  have hcg : hAt d (b ++ [pk hr k]) best b.length = hAt d b best b.length := hAt_congr best _ (fun j hj => gt_app_lt _ _ _ hj)
  have hnd := need_num hv best hl
  by_cases h1 : bitN (gt d.bathers b.length).hours hr = 0
  · rw [broken_hour (plan := b ++ [pk hr k]) (k := b.length) hv hl (by rw [e1]; exact hx.1) (by rw [e1]; dsimp only; omega) (by rw [e1]; dsimp only; omega) (.inl (by rw [e1]; exact h1))]
    exact ⟨fun h => by omega, fun h => absurd h1 h.1⟩
  · have h1' := bit_01 (gt d.bathers b.length).hours hr
    by_cases h2 : bitN (gt d.dippers k).hours hr = 0
    · rw [broken_hour (plan := b ++ [pk hr k]) (k := b.length) hv hl (by rw [e1]; exact hx.1) (by rw [e1]; dsimp only; omega) (by rw [e1]; dsimp only; omega) (.inr (by rw [e1]; exact h2))]
      have := hAt_le hv b best b.length (by omega) hr k
      have hbg : beginH d best hr k = -1 := by unfold beginH; rw [if_pos hk, if_neg (by omega)]
      exact ⟨fun h => by omega, fun h => by omega⟩
    · have h2' := bit_01 (gt d.dippers k).hours hr
      rw [broken_hands hv hl (by simp) hq (by rw [e1]; dsimp only; omega) (by rw [e1]; dsimp only; omega) (by rw [e1]; dsimp only; omega) (by rw [e1]; exact h2'.resolve_left h2)]
      rw [e1]
      have e2 : hAt d (b ++ [pk hr k]) best (b.length + 1) hr k = hAt d b best b.length hr k - need0 best (gt d.bathers b.length) := by
        simp only [hAt]
        rw [e1, hcg]
        simp [upd]
      show (if hAt d (b ++ [pk hr k]) best (b.length + 1) hr k < 0 then (2 : Int) else 0) = 0 ↔ _
      rw [e2]
      split
      · exact ⟨fun h => by omega, fun h => by omega⟩
      · exact ⟨fun _ => ⟨h1, by omega⟩, fun _ => rfl⟩
theorem on_head {d : Dips} (hv : dipsB d = true) (best : Bool) : ∀ (rem : Nat) (b : List Plc), b.length + rem = d.bathers.length → PlOk d b → (onP d best rem (hAt d b best b.length)).map (b ++ ·) = (plR d best rem b).head? := by
  intro rem
  induction rem with
  | zero => intro b _ _; simp [onP, plR]
  | succ rem ih =>
    intro b hl hb
    have hj : d.bathers.length - (rem + 1) = b.length := by omega
    simp only [onP, plR, placesL, placesTo, allPl]
    rw [hj, findSome_flatMap, findSome_map', head_flatMap, findSome_flatMap]
    refine findSome_congr fun hr hhr => ?_
    have hhr' : hr < d.hours.toNat := by simpa using hhr
    rw [rowPl, findSome_map]
    unfold hourAt rowTo
    by_cases h1 : bitN (gt d.bathers b.length).hours hr = 0
    · rw [if_pos h1]
      show none = _
      symm
      refine findSome_none fun k hk => ?_
      · have hk' : k < d.dippers.length := by simpa using hk
        rw [if_neg (fun h => ((broken_next hv best hb (by omega) hhr' hk').1 h).1 h1)]
        rfl
    · rw [if_neg h1, findSome_flatMap, findSome_map']
      refine findSome_congr fun k hk => ?_
      have hk' : k < d.dippers.length := by simpa using hk
      have hbn := broken_next hv best hb (by omega) hhr' hk'
      unfold cellAt
      by_cases h2 : hAt d b best b.length hr k < need0 best (gt d.bathers b.length)
      · rw [if_pos h2, if_neg (fun h => (hbn.1 h).2 h2)]; rfl
      · rw [if_neg h2, if_pos (hbn.2 ⟨h1, h2⟩)]
        have e1 : gt (b ++ [pk hr k]) b.length = pk hr k := gt_app_at b _
        have hcg : hAt d (b ++ [pk hr k]) best b.length = hAt d b best b.length := hAt_congr best _ (fun j hj => gt_app_lt _ _ _ hj)
        have hI := ih (b ++ [pk hr k]) (by simp; omega) (PlOk_snoc hb (by dsimp only; omega))
        have e2 : hAt d (b ++ [pk hr k]) best (b ++ [pk hr k]).length = upd (hAt d b best b.length) hr k (hAt d b best b.length hr k - need0 best (gt d.bathers b.length)) := by
          rw [List.length_append, List.length_singleton]
          simp only [hAt]
          rw [e1, hcg]
          rfl
        rw [e2] at hI
        rw [← hI]
        simp only [List.findSome?_cons, List.findSome?_nil]
        cases onP d best rem (upd (hAt d b best b.length) hr k (hAt d b best b.length hr k - need0 best (gt d.bathers b.length))) with
        | none => rfl
        | some l => simp
theorem planP_head {d : Dips} (hv : dipsB d = true) (best : Bool) : planP d best = (plansR d best).head? := by
  have h := on_head hv best d.bathers.length [] (by simp) (fun j hj => by simp at hj)
  rw [plansR, ← h]
  show planP d best = (onP d best d.bathers.length (beginH d best)).map ([] ++ ·)
  rw [show (([] : List Plc) ++ ·) = id from by funext l; rfl, Option.map_id]
  rfl
theorem mem_plR {d : Dips} (hh : 0 ≤ d.hours) (best : Bool) : ∀ (rem : Nat) (b l : List Plc), l ∈ plR d best rem b ↔ ∃ t, l = b ++ t ∧ t.length = rem ∧ PlOk d t ∧ ∀ i, b.length ≤ i → i < l.length → brokenR d l i best = 0 := by
  intro rem
  induction rem with
  | zero =>
    intro b l
    simp only [plR, List.mem_singleton]
    constructor
    · rintro rfl; exact ⟨[], by simp, rfl, fun j hj => by simp at hj, fun i h1 h2 => by omega⟩
    · rintro ⟨t, rfl, ht, _, _⟩
      have : t = [] := List.length_eq_zero_iff.1 ht
      subst this; simp
  | succ rem ih =>
    intro b l
    simp only [plR, List.mem_flatMap]
    constructor
    · rintro ⟨x, hx, hl⟩
      split at hl
      · rename_i hbr
        obtain ⟨t, rfl, ht, hp, hb⟩ := (ih _ _).1 hl
        refine ⟨x :: t, by simp, by simp [ht], fun j hj => ?_, fun i h1 h2 => ?_⟩
        · cases j with
          | zero => exact (mem_allPl hh).1 hx
          | succ j => exact hp j (by simpa using hj)
        · by_cases e : i = b.length
          · subst e
            rw [← hbr]
            exact brokenR_congr best fun j hj => gt_app_lt _ _ _ (by simp; omega)
          · exact hb i (by simp; omega) h2
      · cases hl
    · rintro ⟨t, rfl, ht, hp, hb⟩
      cases t with
      | nil => simp at ht
      | cons x t =>
        refine ⟨x, (mem_allPl hh).2 (hp 0 (by simp)), ?_⟩
        have e : b ++ x :: t = (b ++ [x]) ++ t := by simp
        have h0 := hb b.length (Nat.le_refl _) (by simp)
        rw [if_pos (by rw [← h0]; refine brokenR_congr best fun j hj => ?_; rw [e]; exact (gt_app_lt _ _ _ (by simp; omega)).symm)]
        exact (ih _ _).2 ⟨t, e, by simpa using ht, fun j hj => hp (j + 1) (by simpa using hj), fun i h1 h2 => hb i (by simp at h1; omega) h2⟩
/-- a plan without a broken rule -/
def Good (d : Dips) (best : Bool) (l : List Plc) : Prop := l.length = d.bathers.length ∧ PlOk d l ∧ ∀ i, i < l.length → brokenR d l i best = 0
theorem mem_plans {d : Dips} (hh : 0 ≤ d.hours) (best : Bool) (l : List Plc) : l ∈ plansR d best ↔ Good d best l := by
  rw [plansR, mem_plR hh]
  constructor
  · rintro ⟨t, rfl, h1, h2, h3⟩
    exact ⟨h1, h2, fun i hi => h3 i (Nat.zero_le _) hi⟩
  · rintro ⟨h1, h2, h3⟩
    exact ⟨l, rfl, h1, h2, fun i _ hi => h3 i hi⟩
theorem planP_some {d : Dips} (hv : dipsB d = true) (best : Bool) : (planP d best).isSome = true ↔ ∃ l, Good d best l := by
  have hh : 0 ≤ d.hours := by have := (dips_num hv).1; omega
  rw [planP_head hv]
  constructor
  · intro h
    cases hp : plansR d best with
    | nil => rw [hp] at h; cases h
    | cons l r => exact ⟨l, (mem_plans hh best l).1 (by rw [hp]; exact List.mem_cons_self ..)⟩
  · rintro ⟨l, hl⟩
    have := (mem_plans hh best l).2 hl
    cases hp : plansR d best with
    | nil => rw [hp] at this; cases this
    | cons l r => rfl
theorem planP_good {d : Dips} (hv : dipsB d = true) {best : Bool} {l : List Plc} (h : planP d best = some l) : Good d best l := by
  have hh : 0 ≤ d.hours := by have := (dips_num hv).1; omega
  rw [planP_head hv] at h
  exact (mem_plans hh best l).1 (List.mem_of_head? h)
end Go.Proofs.Ytidjdonppfegiaa
/- Sets by their size: the first that suits; the most, the fewest, and why, as the document seeks them and as they are found. -/
namespace Go.Proofs.Ytidjdonppfegiaa
open Go.W Go.Dp
def bef (x y : Nat) : Prop := pop x < pop y ∨ (pop x = pop y ∧ x < y)
instance (x y : Nat) : Decidable (bef x y) := by unfold bef; infer_instance
theorem bef_irr (x : Nat) : ¬ bef x x := by unfold bef; omega
theorem bef_asymm {x y : Nat} (h : bef x y) : ¬ bef y x := by unfold bef at *; omega
theorem bef_trans {x y z : Nat} (h : bef x y) (k : bef y z) : bef x z := by unfold bef at *; omega
theorem bef_tri {x y : Nat} (h : ¬ bef x y) (k : ¬ bef y x) : x = y := by unfold bef at *; omega
def setsOkB (k : Nat) : Bool := decide (∀ i, i < 2 ^ k → gt (setsL k) i < 2 ^ k) && decide (∀ i, i < 2 ^ k → ∀ j, j < 2 ^ k → i < j → bef (gt (setsL k) i) (gt (setsL k) j)) && decide (∀ s, s < 2 ^ k → s ∈ setsL k) && decide ((setsL k).length = 2 ^ k)
theorem setsOk (k : Nat) (hk : k ≤ 5) : (∀ i, i < 2 ^ k → gt (setsL k) i < 2 ^ k) ∧ (∀ i, i < 2 ^ k → ∀ j, j < 2 ^ k → i < j → bef (gt (setsL k) i) (gt (setsL k) j)) ∧ (∀ s, s < 2 ^ k → s ∈ setsL k) ∧ (setsL k).length = 2 ^ k := by
  have h : setsOkB k = true := by
    rcases (show k = 0 ∨ k = 1 ∨ k = 2 ∨ k = 3 ∨ k = 4 ∨ k = 5 by omega) with rfl | rfl | rfl | rfl | rfl | rfl <;> kernel_rfl
  simp only [setsOkB, Bool.and_eq_true, decide_eq_true_eq] at h
  exact ⟨h.1.1.1, h.1.1.2, h.1.2, h.2⟩
theorem sets_at {k : Nat} (hk : k ≤ 5) {s : Nat} (hs : s < 2 ^ k) : ∃ i, i < 2 ^ k ∧ gt (setsL k) i = s := by
  obtain ⟨_, _, h3, h4⟩ := setsOk k hk
  obtain ⟨i, hi, he⟩ := List.getElem_of_mem (h3 s hs)
  refine ⟨i, by omega, ?_⟩
  simp [gt, List.getD, hi, he]
theorem fstP_some {k : Nat} (hk : k ≤ 5) {p : Nat → Bool} (h : (fstP (setsL k) p).2 = true) : p (fstP (setsL k) p).1 = true ∧ (fstP (setsL k) p).1 < 2 ^ k ∧ ∀ t, t < 2 ^ k → p t = true → ¬ bef t (fstP (setsL k) p).1 := by
  obtain ⟨h1, h2, h3, h4⟩ := setsOk k hk
  unfold fstP at *
  cases hf : (setsL k).find? p with
  | none => rw [hf] at h; cases h
  | some x =>
    dsimp only
    obtain ⟨hp, i, hi, hx, hb⟩ := List.find?_eq_some_iff_getElem.1 hf
    have hxi : gt (setsL k) i = x := by simp [gt, List.getD, hi, hx]
    refine ⟨hp, by rw [← hxi]; exact h1 i (by omega), fun t ht hpt hbf => ?_⟩
    obtain ⟨j, hj, rfl⟩ := sets_at hk ht
    rw [← hxi] at hbf
    rcases Nat.lt_trichotomy i j with e | e | e
    · exact bef_asymm hbf (h2 i (by omega) j hj e)
    · subst e; exact bef_irr _ hbf
    · have := hb j e
      have hg : gt (setsL k) j = (setsL k)[j] := by simp [gt, List.getD, show j < (setsL k).length by omega]
      rw [← hg, hpt] at this
      cases this
theorem fstP_none {k : Nat} (hk : k ≤ 5) {p : Nat → Bool} (h : (fstP (setsL k) p).2 = false) : ∀ t, t < 2 ^ k → p t = false := by
  obtain ⟨h1, h2, h3, h4⟩ := setsOk k hk
  unfold fstP at h
  cases hf : (setsL k).find? p with
  | none =>
    intro t ht
    have := List.find?_eq_none.1 hf t (h3 t ht)
    simpa using this
  | some x => rw [hf] at h; cases h
theorem fstP_none' {k : Nat} (hk : k ≤ 5) {p : Nat → Bool} (h : ∀ t, t < 2 ^ k → p t = false) : (fstP (setsL k) p).2 = false := by
  cases hc : (fstP (setsL k) p).2 with
  | false => rfl
  | true =>
    obtain ⟨h1, h2, _⟩ := fstP_some hk hc
    rw [h _ h2] at h1
    cases h1
/-! ### the most -/
def canW (d : Dips) (s : Nat) : Bool := (planP (withB d s) false).isSome
theorem canW_zero (d : Dips) : canW d 0 = true := by
  have e : withB d 0 = ⟨d.hours, d.dippers, []⟩ := by
    unfold withB
    congr 1
    have : ∀ k, bTo d 0 k = [] := by
      intro k; induction k with
      | zero => rfl
      | succ k ih => simp only [bTo]; rw [if_neg (by simp), ih]
    exact this _
  unfold canW
  rw [e]; rfl
def MostC (d : Dips) (s : Nat) : Prop := canW d s = true ∧ s < 2 ^ d.bathers.length ∧ ∀ t, t < 2 ^ d.bathers.length → canW d t = true → pop t ≤ pop s ∧ (pop t = pop s → s ≤ t)
theorem MostC_uniq {d : Dips} {s t : Nat} (h : MostC d s) (k : MostC d t) : s = t := by
  have h1 := h.2.2 t k.2.1 k.1
  have h2 := k.2.2 s h.2.1 h.1
  have e : pop t = pop s := by omega
  have := h1.2 e
  have := h2.2 e.symm
  omega
theorem mostTo_inv {d : Dips} (h5 : d.bathers.length ≤ 5) : ∀ k, k ≤ 2 ^ d.bathers.length → (mostTo d k).1 = pop (mostTo d k).2 ∧ canW d (mostTo d k).2 = true ∧ ((mostTo d k).2 = 0 ∨ ∃ i, i < k ∧ (mostTo d k).2 = gt (setsL d.bathers.length) i) ∧
    ∀ i, i < k → canW d (gt (setsL d.bathers.length) i) = true → pop (gt (setsL d.bathers.length) i) ≤ (mostTo d k).1 ∧ (pop (gt (setsL d.bathers.length) i) = (mostTo d k).1 → (mostTo d k).2 ≤ gt (setsL d.bathers.length) i) := by
  obtain ⟨h1, h2, h3, h4⟩ := setsOk _ h5
  intro k
  induction k with
  | zero => intro _; exact ⟨show 0 = pop 0 by decide, canW_zero d, .inl rfl, fun i hi => by omega⟩
  | succ k ih =>
    intro hk
    obtain ⟨i1, i2, i3, i4⟩ := ih (by omega)
    simp only [mostTo]
    split
    · rename_i hc
      refine ⟨rfl, hc.2, .inr ⟨k, by omega, rfl⟩, fun i hi hci => ?_⟩
      rcases Nat.lt_succ_iff_lt_or_eq.1 hi with e | e
      · have := i4 i e hci
        dsimp only; exact ⟨by omega, fun h => by omega⟩
      · subst e; exact ⟨Nat.le_refl _, fun _ => Nat.le_refl _⟩
    · rename_i hc
      refine ⟨i1, i2, ?_, fun i hi hci => ?_⟩
      · rcases i3 with e | ⟨i, hi, e⟩
        · exact .inl e
        · exact .inr ⟨i, by omega, e⟩
      · rcases Nat.lt_succ_iff_lt_or_eq.1 hi with e | e
        · exact i4 i e hci
        · subst e
          have hle : ¬ (mostTo d i).1 < pop (gt (setsL d.bathers.length) i) := fun h => hc ⟨h, hci⟩
          refine ⟨by omega, fun hp => ?_⟩
          rcases i3 with e | ⟨j, hj, e⟩
          · rw [e]; exact Nat.zero_le _
          · have hb := h2 j (by omega) i (by omega) hj
            rw [← e] at hb
            unfold bef at hb
            omega
theorem mostTo_char {d : Dips} (h5 : d.bathers.length ≤ 5) : MostC d (mostTo d (2 ^ d.bathers.length)).2 ∧ (mostTo d (2 ^ d.bathers.length)).1 = pop (mostTo d (2 ^ d.bathers.length)).2 := by
  obtain ⟨h1, _, _, _⟩ := setsOk _ h5
  obtain ⟨i1, i2, i3, i4⟩ := mostTo_inv h5 (2 ^ d.bathers.length) (Nat.le_refl _)
  refine ⟨⟨i2, ?_, fun t ht hc => ?_⟩, i1⟩
  · rcases i3 with e | ⟨i, hi, e⟩
    · rw [e]; exact Nat.pow_pos (by omega)
    · rw [e]; exact h1 i hi
  · obtain ⟨i, hi, rfl⟩ := sets_at h5 ht
    have := i4 i hi hc
    rw [i1] at this
    exact this
def mostRTo (d : Dips) : Nat → Nat
  | 0 => 0
  | k + 1 => if pop (mostRTo d k) < pop k ∧ canW d k = true then k else mostRTo d k
theorem mostRTo_char (d : Dips) : ∀ k, canW d (mostRTo d k) = true ∧ (mostRTo d k = 0 ∨ mostRTo d k < k) ∧ ∀ t, t < k → canW d t = true → pop t ≤ pop (mostRTo d k) ∧ (pop t = pop (mostRTo d k) → mostRTo d k ≤ t) := by
  intro k
  induction k with
  | zero => exact ⟨canW_zero d, .inl rfl, fun t ht => by omega⟩
  | succ k ih =>
    obtain ⟨i1, i2, i3⟩ := ih
    simp only [mostRTo]
    split
    · rename_i hc
      refine ⟨hc.2, .inr (by omega), fun t ht hct => ?_⟩
      rcases Nat.lt_succ_iff_lt_or_eq.1 ht with e | e
      · have := i3 t e hct; exact ⟨by omega, fun h => by omega⟩
      · subst e; exact ⟨Nat.le_refl _, fun _ => Nat.le_refl _⟩
    · rename_i hc
      refine ⟨i1, by omega, fun t ht hct => ?_⟩
      rcases Nat.lt_succ_iff_lt_or_eq.1 ht with e | e
      · exact i3 t e hct
      · subst e
        have : ¬ pop (mostRTo d t) < pop t := fun h => hc ⟨h, hct⟩
        exact ⟨by omega, fun _ => by omega⟩
theorem most_eq {d : Dips} (h5 : d.bathers.length ≤ 5) : mostTo d (2 ^ d.bathers.length) = (pop (mostRTo d (2 ^ d.bathers.length)), mostRTo d (2 ^ d.bathers.length)) := by
  obtain ⟨h1, h2⟩ := mostTo_char h5
  obtain ⟨i1, i2, i3⟩ := mostRTo_char d (2 ^ d.bathers.length)
  have hp : 0 < 2 ^ d.bathers.length := Nat.pow_pos (by omega)
  have e := MostC_uniq h1 ⟨i1, by omega, i3⟩
  rw [← e, ← h2]
/-! ### why -/
def whyRTo (d : Dips) : Nat → Nat
  | 0 => 2 ^ d.bathers.length - 1
  | k + 1 => if pop k < pop (whyRTo d k) ∧ canW d k = false then k else whyRTo d k
def popFullB (n : Nat) : Bool := decide (∀ x, x < 2 ^ n → x ≠ 2 ^ n - 1 → pop x < pop (2 ^ n - 1))
theorem pop_full (n : Nat) (hn : n ≤ 5) : ∀ x, x < 2 ^ n → x ≠ 2 ^ n - 1 → pop x < pop (2 ^ n - 1) := by
  have h : popFullB n = true := by
    rcases (show n = 0 ∨ n = 1 ∨ n = 2 ∨ n = 3 ∨ n = 4 ∨ n = 5 by omega) with rfl | rfl | rfl | rfl | rfl | rfl <;> kernel_rfl
  simpa only [popFullB, decide_eq_true_eq] using h
theorem whyRTo_char {d : Dips} (h5 : d.bathers.length ≤ 5) (hf : canW d (2 ^ d.bathers.length - 1) = false) : ∀ k, k ≤ 2 ^ d.bathers.length → canW d (whyRTo d k) = false ∧ (whyRTo d k = 2 ^ d.bathers.length - 1 ∨ whyRTo d k < k) ∧ ∀ t, t < k → canW d t = false → ¬ bef t (whyRTo d k) := by
  intro k
  induction k with
  | zero => intro _; exact ⟨hf, .inl rfl, fun t ht => by omega⟩
  | succ k ih =>
    intro hk
    obtain ⟨i1, i2, i3⟩ := ih (by omega)
    simp only [whyRTo]
    split
    · rename_i hc
      refine ⟨hc.2, .inr (by omega), fun t ht hct => ?_⟩
      rcases Nat.lt_succ_iff_lt_or_eq.1 ht with e | e
      · have := i3 t e hct; unfold bef at *; omega
      · subst e; exact bef_irr _
    · rename_i hc
      refine ⟨i1, by omega, fun t ht hct => ?_⟩
      rcases Nat.lt_succ_iff_lt_or_eq.1 ht with e | e
      · exact i3 t e hct
      · subst e
        have h1 : ¬ pop t < pop (whyRTo d t) := fun h => hc ⟨h, hct⟩
        rcases i2 with e2 | e2
        · by_cases e3 : t = 2 ^ d.bathers.length - 1
          · rw [e2, ← e3]; exact bef_irr _
          · have := pop_full _ h5 t (by omega) e3
            rw [e2] at h1; omega
        · unfold bef; omega
theorem why_some {d : Dips} (h5 : d.bathers.length ≤ 5) (hf : canW d (2 ^ d.bathers.length - 1) = false) : fstP (setsL d.bathers.length) (cantB d) = (whyRTo d (2 ^ d.bathers.length), true) := by
  have hp : 0 < 2 ^ d.bathers.length := Nat.pow_pos (by omega)
  have hcb : ∀ t, cantB d t = !canW d t := fun t => rfl
  cases hc : (fstP (setsL d.bathers.length) (cantB d)).2 with
  | false =>
    have := fstP_none h5 hc (2 ^ d.bathers.length - 1) (by omega)
    rw [hcb, hf] at this; cases this
  | true =>
    obtain ⟨h1, h2, h3⟩ := fstP_some h5 hc
    obtain ⟨i1, i2, i3⟩ := whyRTo_char h5 hf (2 ^ d.bathers.length) (Nat.le_refl _)
    rw [hcb] at h1
    have h1' : canW d (fstP (setsL d.bathers.length) (cantB d)).1 = false := by simpa using h1
    have e : (fstP (setsL d.bathers.length) (cantB d)).1 = whyRTo d (2 ^ d.bathers.length) :=
      bef_tri (i3 _ h2 h1') (h3 _ (by omega) (by rw [hcb, i1]; rfl))
    rw [← e, ← hc]
end Go.Proofs.Ytidjdonppfegiaa
/- A plan for some of the bathers; a plan with some of the dippers; the document's Plan, Hope, Fewest, Most and Why are what is found. -/
namespace Go.Proofs.Ytidjdonppfegiaa
open Go.W Go.Dp
def sbTo {α : Type} [Inhabited α] (l : List α) (s : Nat) : Nat → List α
  | 0 => []
  | k + 1 => if s / 2 ^ k % 2 = 1 then sbTo l s k ++ [gt l k] else sbTo l s k
def cntS (s : Nat) : Nat → Nat
  | 0 => 0
  | k + 1 => if s / 2 ^ k % 2 = 1 then cntS s k + 1 else cntS s k
theorem bTo_eq (d : Dips) (s : Nat) : ∀ k, bTo d s k = sbTo d.bathers s k := by
  intro k; induction k with
  | zero => rfl
  | succ k ih => simp only [bTo, sbTo, ih]
section
variable {α : Type} [Inhabited α] (l : List α) (s : Nat)
theorem sbTo_len : ∀ k, (sbTo l s k).length = cntS s k := by
  intro k; induction k with
  | zero => rfl
  | succ k ih => simp only [sbTo, cntS]; split
                 · rw [List.length_append, List.length_singleton, ih]
                 · exact ih
theorem cntS_mono (k : Nat) : ∀ n, cntS s k ≤ cntS s (k + n) := by
  intro n; induction n with
  | zero => exact Nat.le_refl _
  | succ n ih => rw [← Nat.add_assoc]; simp only [cntS]; split <;> omega
theorem sbTo_pre (k : Nat) : ∀ n i, i < cntS s k → gt (sbTo l s (k + n)) i = gt (sbTo l s k) i := by
  intro n; induction n with
  | zero => intro i _; rfl
  | succ n ih =>
    intro i hi
    rw [← Nat.add_assoc]
    simp only [sbTo]
    split
    · rw [gt_app_lt _ _ _ (by rw [sbTo_len]; have := cntS_mono s k n; omega)]; exact ih i hi
    · exact ih i hi
theorem sbTo_at {k n : Nat} (hk : k < n) (hb : s / 2 ^ k % 2 = 1) : gt (sbTo l s n) (cntS s k) = gt l k := by
  have e : n = (k + 1) + (n - (k + 1)) := by omega
  have h1 : cntS s (k + 1) = cntS s k + 1 := if_pos hb
  rw [e, sbTo_pre l s (k + 1) (n - (k + 1)) (cntS s k) (by omega)]
  simp only [sbTo]
  rw [if_pos hb, ← sbTo_len l s k, gt_app_at]
theorem cntS_inv : ∀ n i, i < cntS s n → ∃ k, k < n ∧ s / 2 ^ k % 2 = 1 ∧ cntS s k = i := by
  intro n; induction n with
  | zero => intro i hi; exact absurd hi (Nat.not_lt_zero _)
  | succ n ih =>
    intro i hi
    simp only [cntS] at hi
    split at hi
    · rename_i hb
      by_cases e : i = cntS s n
      · exact ⟨n, by omega, hb, e.symm⟩
      · obtain ⟨k, h1, h2, h3⟩ := ih i (by omega); exact ⟨k, by omega, h2, h3⟩
    · obtain ⟨k, h1, h2, h3⟩ := ih i hi; exact ⟨k, by omega, h2, h3⟩
end
theorem leftR_sub {d : Dips} (hv : dipsB d = true) (best : Bool) (l : List Plc) (s : Nat) (x : Plc) : ∀ k, k ≤ d.bathers.length → leftR d l best x k ≤ leftR (withB d s) (sbTo l s d.bathers.length) best x (cntS s k) := by
  intro k
  induction k with
  | zero => intro _; exact Int.le_refl _
  | succ k ih =>
    intro hk
    have h1 := ih (by omega)
    have h2 := need_num hv best (i := k) (by omega)
    by_cases hb : s / 2 ^ k % 2 = 1
    · have e : cntS s (k + 1) = cntS s k + 1 := if_pos hb
      rw [e]
      simp only [leftR]
      have e1 := sbTo_at l s (n := d.bathers.length) (by omega) hb
      have e2 : gt (withB d s).bathers (cntS s k) = gt d.bathers k := by
        show gt (bTo d s d.bathers.length) (cntS s k) = _
        rw [bTo_eq]; exact sbTo_at d.bathers s (by omega) hb
      rw [e1, e2]
      omega
    · have e : cntS s (k + 1) = cntS s k := if_neg hb
      rw [e]
      simp only [leftR]
      split <;> omega
theorem brokenR_zero {d : Dips} {l : List Plc} {i : Nat} {best : Bool} : brokenR d l i best = 0 ↔ hasB (gt d.bathers i).hours (gt l i).hour = true ∧ hasB (gt d.dippers (gt l i).dipper.toNat).hours (gt l i).hour = true ∧ 0 ≤ leftR d l best (gt l i) (i + 1) := by
  unfold brokenR
  split
  · rename_i h
    refine ⟨fun h => by omega, fun hh => ?_⟩
    rw [hh.1, hh.2.1] at h
    simp at h
  · rename_i h
    have h1 : hasB (gt d.bathers i).hours (gt l i).hour = true := by
      cases hc : hasB (gt d.bathers i).hours (gt l i).hour with
      | false => exact absurd (.inl hc) h
      | true => rfl
    have h2 : hasB (gt d.dippers (gt l i).dipper.toNat).hours (gt l i).hour = true := by
      cases hc : hasB (gt d.dippers (gt l i).dipper.toNat).hours (gt l i).hour with
      | false => exact absurd (.inr hc) h
      | true => rfl
    split
    · exact ⟨fun h => by omega, fun hh => by omega⟩
    · exact ⟨fun _ => ⟨h1, h2, by omega⟩, fun _ => rfl⟩
theorem good_sub {d : Dips} (hv : dipsB d = true) {best : Bool} {l : List Plc} (h : Good d best l) (s : Nat) : Good (withB d s) best (sbTo l s d.bathers.length) := by
  obtain ⟨h1, h2, h3⟩ := h
  have hln : (sbTo l s d.bathers.length).length = (withB d s).bathers.length := by
    show _ = (bTo d s d.bathers.length).length
    rw [bTo_eq, sbTo_len, sbTo_len]
  refine ⟨hln, fun j hj => ?_, fun i hi => ?_⟩
  · rw [sbTo_len] at hj
    obtain ⟨k, k1, k2, rfl⟩ := cntS_inv s _ j hj
    rw [sbTo_at l s k1 k2]
    exact h2 k (by omega)
  · rw [sbTo_len] at hi
    obtain ⟨k, k1, k2, rfl⟩ := cntS_inv s _ i hi
    obtain ⟨g1, g2, g3⟩ := brokenR_zero.1 (h3 k (by omega))
    refine brokenR_zero.2 ?_
    rw [sbTo_at l s k1 k2]
    refine ⟨?_, g2, ?_⟩
    · have e2 : gt (withB d s).bathers (cntS s k) = gt d.bathers k := by
        show gt (bTo d s d.bathers.length) (cntS s k) = _
        rw [bTo_eq]; exact sbTo_at d.bathers s k1 k2
      rw [e2]; exact g1
    · have := leftR_sub hv best l s (gt l k) (k + 1) (by omega)
      have e : cntS s (k + 1) = cntS s k + 1 := if_pos k2
      rw [e] at this
      omega
theorem sbTo_all {α : Type} [Inhabited α] (l : List α) (s : Nat) : ∀ k, k ≤ l.length → (∀ i, i < k → s / 2 ^ i % 2 = 1) → sbTo l s k = l.take k := by
  intro k
  induction k with
  | zero => intro _ _; simp [sbTo]
  | succ k ih =>
    intro hk h
    simp only [sbTo]
    rw [if_pos (h k (by omega)), ih (by omega) (fun i hi => h i (by omega)), List.take_succ_eq_append_getElem (by omega)]
    congr 1
    simp [gt, List.getD, show k < l.length by omega]
def fullB (n : Nat) : Bool := decide (∀ i, i < n → (2 ^ n - 1) / 2 ^ i % 2 = 1)
theorem full_bits (n : Nat) (hn : n ≤ 5) : ∀ i, i < n → (2 ^ n - 1) / 2 ^ i % 2 = 1 := by
  have h : fullB n = true := by
    rcases (show n = 0 ∨ n = 1 ∨ n = 2 ∨ n = 3 ∨ n = 4 ∨ n = 5 by omega) with rfl | rfl | rfl | rfl | rfl | rfl <;> kernel_rfl
  simpa only [fullB, decide_eq_true_eq] using h
theorem withB_full {d : Dips} (h5 : d.bathers.length ≤ 5) : withB d (2 ^ d.bathers.length - 1) = d := by
  unfold withB
  rw [bTo_eq, sbTo_all _ _ _ (Nat.le_refl _) (full_bits _ h5), List.take_length]
theorem canW_full {d : Dips} (h5 : d.bathers.length ≤ 5) : canW d (2 ^ d.bathers.length - 1) = (planP d false).isSome := by
  unfold canW; rw [withB_full h5]
theorem canW_all {d : Dips} (hv : dipsB d = true) (h : (planP d false).isSome = true) (s : Nat) : canW d s = true := by
  obtain ⟨l, hl⟩ := (planP_some hv false).1 h
  exact (planP_some (withB_ok hv s) false).2 ⟨_, good_sub hv hl s⟩
theorem isSome_plans {d : Dips} (hv : dipsB d = true) (best : Bool) : (planP d best).isSome = decide ((plansR d best).length ≠ 0) := by
  rw [planP_head hv]
  cases plansR d best <;> simp
def WhyRef (d : Dips) : Int × Int := if dipsB d = false then (0, 1) else if (plansR d false).length ≠ 0 then (0, 4) else ((whyRTo d (2 ^ d.bathers.length) : Nat), 0)
theorem why_eq (d : Dips) : WhyOut d = WhyRef d := by
  unfold WhyOut WhyRef
  cases hv : dipsB d with
  | false => rfl
  | true =>
    have h5 := (dips_num hv).2.2.1
    have hi := isSome_plans hv false
    simp only [Bool.true_eq_false, if_false]
    by_cases hp : (plansR d false).length ≠ 0
    · rw [if_pos hp]
      have hs : (planP d false).isSome = true := by rw [hi]; exact decide_eq_true hp
      have : (fstP (setsL d.bathers.length) (cantB d)).2 = false := fstP_none' h5 fun t _ => by
        show (!canW d t) = false
        rw [canW_all hv hs t]; rfl
      rw [this]; rfl
    · rw [if_neg hp]
      have hs : (planP d false).isSome = false := by rw [hi]; exact decide_eq_false hp
      rw [why_some h5 (by rw [canW_full h5, hs])]; rfl
def MostRef (d : Dips) : Int × Int × Int := if dipsB d = false then (0, 0, 1) else ((pop (mostRTo d (2 ^ d.bathers.length)) : Nat), (mostRTo d (2 ^ d.bathers.length) : Nat), 0)
theorem mostOut_eq (d : Dips) : MostOut d = MostRef d := by
  unfold MostOut MostRef
  cases hv : dipsB d with
  | false => rfl
  | true => rw [most_eq (dips_num hv).2.2.1]
theorem PlanOut_nil {d : Dips} (hv : dipsB d = true) (h : plansR d false = []) : PlanOut d = ([], 4) := by
  unfold PlanOut; rw [planP_head hv, h, hv]; rfl
theorem PlanOut_cons {d : Dips} (hv : dipsB d = true) {l : List Plc} {r : List (List Plc)} (h : plansR d false = l :: r) : PlanOut d = (l, 0) := by
  unfold PlanOut; rw [planP_head hv, h, hv]; rfl
/-! ### the fewest -/
def usedTo (l : List Plc) : Nat → Nat
  | 0 => 0
  | k + 1 => if usedTo l k / 2 ^ (gt l k).dipper.toNat % 2 = 1 then usedTo l k else usedTo l k + 2 ^ (gt l k).dipper.toNat
def usedR (l : List Plc) : Nat := usedTo l l.length
def bitB (u j : Nat) : Bool := u / 2 ^ j % 2 == 1
def addBitB : Bool := (List.range 8).all fun u => (List.range 3).all fun j => bitB u j || (decide (u + 2 ^ j < 8) && (List.range 3).all fun i => bitB (u + 2 ^ j) i == (bitB u i || i == j))
theorem addBit (u : Nat) (hu : u < 8) (j : Nat) (hj : j < 3) (hb : ¬ u / 2 ^ j % 2 = 1) : u + 2 ^ j < 8 ∧ ∀ i, i < 3 → ((u + 2 ^ j) / 2 ^ i % 2 = 1 ↔ (u / 2 ^ i % 2 = 1 ∨ i = j)) := by
  have h : addBitB = true := by kernel_rfl
  have h1 := List.all_eq_true.1 (List.all_eq_true.1 h u (List.mem_range.2 hu)) j (List.mem_range.2 hj)
  have hbf : bitB u j = false := by simpa [bitB] using hb
  rw [hbf, Bool.false_or, Bool.and_eq_true, decide_eq_true_eq] at h1
  refine ⟨h1.1, fun i hi => ?_⟩
  have h2 := List.all_eq_true.1 h1.2 i (List.mem_range.2 hi)
  have h3 : bitB (u + 2 ^ j) i = (bitB u i || i == j) := by simpa using h2
  have h4 : bitB (u + 2 ^ j) i = true ↔ (bitB u i || i == j) = true := by rw [h3]
  simpa [bitB] using h4
def Dip3 (l : List Plc) : Prop := ∀ i, i < l.length → 0 ≤ (gt l i).dipper ∧ (gt l i).dipper < 3
theorem usedTo_bit {l : List Plc} (h : Dip3 l) : ∀ k, k ≤ l.length → usedTo l k < 8 ∧ ∀ j, j < 3 → (usedTo l k / 2 ^ j % 2 = 1 ↔ ∃ i, i < k ∧ (gt l i).dipper.toNat = j) := by
  intro k
  induction k with
  | zero => intro _; exact ⟨by simp [usedTo], fun j hj => ⟨fun h => by simp [usedTo] at h, fun ⟨i, hi, _⟩ => by omega⟩⟩
  | succ k ih =>
    intro hk
    obtain ⟨i1, i2⟩ := ih (by omega)
    have hd := h k (by omega)
    simp only [usedTo]
    split
    · rename_i hb
      refine ⟨i1, fun j hj => (i2 j hj).trans ⟨fun ⟨i, a, b⟩ => ⟨i, by omega, b⟩, fun ⟨i, a, b⟩ => ?_⟩⟩
      by_cases e : i = k
      · subst e; rw [b] at hb; exact (i2 j hj).1 hb
      · exact ⟨i, by omega, b⟩
    · rename_i hb
      obtain ⟨a1, a2⟩ := addBit _ i1 (gt l k).dipper.toNat (by omega) hb
      refine ⟨a1, fun j hj => (a2 j hj).trans ?_⟩
      rw [i2 j hj]
      constructor
      · rintro (⟨i, a, b⟩ | e)
        · exact ⟨i, by omega, b⟩
        · exact ⟨k, by omega, e.symm⟩
      · rintro ⟨i, a, b⟩
        by_cases e : i = k
        · subst e; exact .inr b.symm
        · exact .inl ⟨i, by omega, b⟩
def subB (u s : Nat) : Prop := ∀ j, j < 3 → u / 2 ^ j % 2 = 1 → s / 2 ^ j % 2 = 1
def subPopB : Bool := decide (∀ u, u < 8 → ∀ s, s < 8 → (∀ j, j < 3 → u / 2 ^ j % 2 = 1 → s / 2 ^ j % 2 = 1) → u = s ∨ pop u < pop s)
theorem sub_pop {u s : Nat} (hu : u < 8) (hs : s < 8) (h : subB u s) : u = s ∨ pop u < pop s := by
  have h0 : subPopB = true := by kernel_rfl
  have h1 : ∀ u, u < 8 → ∀ s, s < 8 → (∀ j, j < 3 → u / 2 ^ j % 2 = 1 → s / 2 ^ j % 2 = 1) → u = s ∨ pop u < pop s := by simpa only [subPopB, decide_eq_true_eq] using h0
  exact h1 u hu s hs h
theorem leftR_by {d : Dips} {l : List Plc} {s : Nat} (best : Bool) (x : Plc) (hx : x.dipper.toNat < d.dippers.length) : ∀ k, leftR (byB d s) l best x k = leftR d l best x k := by
  intro k
  induction k with
  | zero =>
    simp only [leftR]
    show hands0 best (gt (byL d.dippers s d.dippers.length) x.dipper.toNat) = _
    rw [byL_at _ _ _ _ (Nat.le_refl _)]
    split <;> rfl
  | succ k ih => simp only [leftR]; rw [ih]; rfl
theorem good_by {d : Dips} {best : Bool} {l : List Plc} {s : Nat} : Good (byB d s) best l ↔ Good d best l ∧ ∀ i, i < l.length → s / 2 ^ (gt l i).dipper.toNat % 2 = 1 := by
  have hlen : (byB d s).dippers.length = d.dippers.length := byL_len _ _ _
  have hpl : PlOk (byB d s) l ↔ PlOk d l := by unfold PlOk; rw [hlen]; rfl
  have hbr : ∀ i, i < l.length → PlOk d l → (brokenR (byB d s) l i best = 0 ↔ brokenR d l i best = 0 ∧ s / 2 ^ (gt l i).dipper.toNat % 2 = 1) := fun i hi hq => by
    have hx := hq i hi
    rw [brokenR_zero, brokenR_zero, leftR_by best _ (by omega)]
    show (hasB (gt d.bathers i).hours _ = true ∧ hasB (gt (byL d.dippers s d.dippers.length) (gt l i).dipper.toNat).hours _ = true ∧ _) ↔ _
    rw [byL_at _ _ _ _ (Nat.le_refl _)]
    by_cases hb : s / 2 ^ (gt l i).dipper.toNat % 2 = 1
    · rw [if_neg (fun hh => hh.2 hb)]
      exact ⟨fun h => ⟨h, hb⟩, fun h => h.1⟩
    · rw [if_pos ⟨by omega, hb⟩]
      refine ⟨fun h => ?_, fun h => absurd h.2 hb⟩
      have := h.2.1
      simp [hasB] at this
  constructor
  · rintro ⟨h1, h2, h3⟩
    have h2' := hpl.1 h2
    exact ⟨⟨h1, h2', fun i hi => ((hbr i hi h2').1 (h3 i hi)).1⟩, fun i hi => ((hbr i hi h2').1 (h3 i hi)).2⟩
  · rintro ⟨⟨h1, h2, h3⟩, h4⟩
    exact ⟨h1, hpl.2 h2, fun i hi => (hbr i hi h2).2 ⟨h3 i hi, h4 i hi⟩⟩
theorem good_dip3 {d : Dips} (hv : dipsB d = true) {best : Bool} {l : List Plc} (h : Good d best l) : Dip3 l := fun i hi => by
  have := h.2.1 i hi
  have := (dips_num hv).2.1
  omega
theorem used_bit {l : List Plc} (h : Dip3 l) : usedR l < 8 ∧ ∀ j, j < 3 → (usedR l / 2 ^ j % 2 = 1 ↔ ∃ i, i < l.length ∧ (gt l i).dipper.toNat = j) := usedTo_bit h _ (Nat.le_refl _)
theorem byCan_iff {d : Dips} (hv : dipsB d = true) (s : Nat) : byCan d s = true ↔ ∃ l, Good d false l ∧ subB (usedR l) s := by
  unfold byCan
  rw [planP_some (byB_ok hv s)]
  constructor
  · rintro ⟨l, hl⟩
    obtain ⟨h1, h2⟩ := good_by.1 hl
    refine ⟨l, h1, fun j hj hb => ?_⟩
    obtain ⟨i, hi, e⟩ := ((used_bit (good_dip3 hv h1)).2 j hj).1 hb
    rw [← e]; exact h2 i hi
  · rintro ⟨l, h1, h2⟩
    refine ⟨l, good_by.2 ⟨h1, fun i hi => ?_⟩⟩
    have h3 := good_dip3 hv h1 i hi
    exact h2 _ (by omega) (((used_bit (good_dip3 hv h1)).2 _ (by omega)).2 ⟨i, hi, rfl⟩)
def usedLtB (n : Nat) : Bool := decide (∀ u, u < 8 → (∀ j, j < 3 → u / 2 ^ j % 2 = 1 → j < n) → u < 2 ^ n)
theorem used_lt {d : Dips} (hv : dipsB d = true) {l : List Plc} (h : Good d false l) : usedR l < 2 ^ d.dippers.length := by
  have hn := (dips_num hv).2.1
  obtain ⟨h1, h2⟩ := used_bit (good_dip3 hv h)
  have hb : usedLtB d.dippers.length = true := by
    generalize d.dippers.length = n at hn
    rcases (show n = 0 ∨ n = 1 ∨ n = 2 ∨ n = 3 by omega) with rfl | rfl | rfl | rfl <;> kernel_rfl
  have hb' : ∀ u, u < 8 → (∀ j, j < 3 → u / 2 ^ j % 2 = 1 → j < d.dippers.length) → u < 2 ^ d.dippers.length := by simpa only [usedLtB, decide_eq_true_eq] using hb
  refine hb' _ h1 fun j hj hbit => ?_
  obtain ⟨i, hi, e⟩ := (h2 j hj).1 hbit
  have := h.2.1 i hi
  omega
def fewTo (L : List (List Plc)) : Nat → Nat
  | 0 => usedR (gt L 0)
  | k + 1 => if pop (usedR (gt L k)) < pop (fewTo L k) ∨ (pop (usedR (gt L k)) = pop (fewTo L k) ∧ usedR (gt L k) < fewTo L k) then usedR (gt L k) else fewTo L k
theorem fewTo_char (L : List (List Plc)) (h0 : 0 < L.length) : ∀ k, k ≤ L.length → (∃ l, l ∈ L ∧ fewTo L k = usedR l) ∧ ∀ i, i < k → ¬ bef (usedR (gt L i)) (fewTo L k) := by
  intro k
  induction k with
  | zero => intro _; exact ⟨⟨_, gt_mem h0, rfl⟩, fun i hi => by omega⟩
  | succ k ih =>
    intro hk
    obtain ⟨i1, i2⟩ := ih (by omega)
    simp only [fewTo]
    split
    · rename_i hc
      have hc' : bef (usedR (gt L k)) (fewTo L k) := hc
      refine ⟨⟨_, gt_mem (by omega), rfl⟩, fun i hi => ?_⟩
      rcases Nat.lt_succ_iff_lt_or_eq.1 hi with e | e
      · exact fun hh => i2 i e (bef_trans hh hc')
      · subst e; exact bef_irr _
    · rename_i hc
      refine ⟨i1, fun i hi => ?_⟩
      rcases Nat.lt_succ_iff_lt_or_eq.1 hi with e | e
      · exact i2 i e
      · subst e; exact hc
def FewRef (d : Dips) : Int × Int := if dipsB d = false then (0, 1) else if (plansR d false).length = 0 then (0, 4) else ((fewTo (plansR d false) (plansR d false).length : Nat), 0)
theorem few_eq (d : Dips) : FewestOut d = FewRef d := by
  unfold FewestOut FewRef
  cases hv : dipsB d with
  | false => rfl
  | true =>
    have h3 := (dips_num hv).2.1
    have hh : 0 ≤ d.hours := by have := (dips_num hv).1; omega
    have hm := mem_plans hh false (d := d)
    simp only [Bool.true_eq_false, if_false]
    by_cases hp : (plansR d false).length = 0
    · rw [if_pos hp]
      have : (fstP (setsL d.dippers.length) (byCan d)).2 = false := fstP_none' (by omega) fun t _ => by
        cases hc : byCan d t with
        | false => rfl
        | true =>
          obtain ⟨l, hl, _⟩ := (byCan_iff hv t).1 hc
          have := (hm l).2 hl
          rw [List.length_eq_zero_iff.1 hp] at this
          cases this
      rw [this]; rfl
    · rw [if_neg hp]
      obtain ⟨⟨l, hl, he⟩, hmin⟩ := fewTo_char (plansR d false) (by omega) _ (Nat.le_refl _)
      have hg := (hm l).1 hl
      have hcan : byCan d (usedR l) = true := (byCan_iff hv _).2 ⟨l, hg, fun j _ h => h⟩
      have hlt := used_lt hv hg
      cases hc : (fstP (setsL d.dippers.length) (byCan d)).2 with
      | false => rw [fstP_none (by omega) hc _ hlt] at hcan; cases hcan
      | true =>
        obtain ⟨s1, s2, s3⟩ := fstP_some (show d.dippers.length ≤ 5 by omega) hc
        have h8 : 2 ^ d.dippers.length ≤ 2 ^ 3 := Nat.pow_le_pow_right (by omega) h3
        obtain ⟨l', hg', hsub⟩ := (byCan_iff hv _).1 s1
        have hu := (used_bit (good_dip3 hv hg')).1
        have hpp := sub_pop hu (by omega) hsub
        have hl' := (hm l').2 hg'
        obtain ⟨i, hi, hie⟩ := List.getElem_of_mem hl'
        have hgi : gt (plansR d false) i = l' := by simp [gt, List.getD, hi, hie]
        have hmi := hmin i hi
        rw [hgi] at hmi
        have e : (fstP (setsL d.dippers.length) (byCan d)).1 = fewTo (plansR d false) (plansR d false).length := by
          refine bef_tri (fun hb => hmi ?_) (by rw [he]; exact s3 _ hlt hcan)
          rcases hpp with e | e
          · rw [e]; exact hb
          · exact bef_trans (.inl e) hb
        simp only [if_true, e]
end Go.Proofs.Ytidjdonppfegiaa
/- Draws by remainders; a plan that is made; whether a plan fits. -/
namespace Go.Proofs.Ytidjdonppfegiaa
open Go.W Go.Dp
def drawV (by_ : List Int) (j : Nat) (n : Int) : Int := if by_.length = 0 then (j : Int) % n else (gt by_ (j % by_.length) + 43 * (j : Int)) % n
theorem drawV_num (by_ : List Int) (j : Nat) {n : Int} (h : 1 ≤ n) : 0 ≤ drawV by_ j n ∧ drawV by_ j n < n := by
  unfold drawV; split
  · exact ⟨Int.emod_nonneg _ (by omega), Int.emod_lt_of_pos _ (by omega)⟩
  · exact ⟨Int.emod_nonneg _ (by omega), Int.emod_lt_of_pos _ (by omega)⟩
def mkTo (d : Dips) (by_ : List Int) (j k : Nat) : List Plc := (List.range k).map fun i => ⟨drawV by_ (j + 2 * i + 1) d.hours, drawV by_ (j + 2 * i + 2) d.dippers.length⟩
theorem mkTo_succ (d : Dips) (by_ : List Int) (j k : Nat) : mkTo d by_ j (k + 1) = mkTo d by_ j k ++ [⟨drawV by_ (j + 2 * k + 1) d.hours, drawV by_ (j + 2 * k + 2) d.dippers.length⟩] := by simp [mkTo, List.range_succ]
theorem mkTo_len (d : Dips) (by_ : List Int) (j k : Nat) : (mkTo d by_ j k).length = k := by simp [mkTo]
def mkCs (d : Dips) (by_ : List Int) (j k : Nat) : List Value := (mkTo d by_ j k).flatMap placeC
theorem mkCs_len (d : Dips) (by_ : List Int) (j k : Nat) : (mkCs d by_ j k).length = k * 2 := by rw [mkCs, flat_len placeC_len, mkTo_len]
theorem mkCs_succ (d : Dips) (by_ : List Int) (j k : Nat) : mkCs d by_ j (k + 1) = mkCs d by_ j k ++ [it (drawV by_ (j + 2 * k + 1) d.hours), it (drawV by_ (j + 2 * k + 2) d.dippers.length)] := by
  rw [mkCs, mkCs, mkTo_succ, List.flatMap_append]; rfl
def madeL (d : Dips) (by_ : List Int) (j : Nat) : List Plc := if d.dippers.length = 0 then [] else mkTo d by_ j d.bathers.length
def madeIs (d : Dips) : Bool := if d.dippers.length = 0 then decide ((d.bathers.length : Int) = 0) else true
def madeN (d : Dips) (j : Nat) : Nat := if d.dippers.length = 0 then j else j + 2 * d.bathers.length
theorem gt_map {α β : Type} [Inhabited α] [Inhabited β] (f : α → β) (l : List α) (i : Nat) (h : i < l.length) : gt (l.map f) i = f (gt l i) := by
  simp [gt, List.getD, h]
theorem mkTo_at (d : Dips) (by_ : List Int) (j k i : Nat) (h : i < k) : gt (mkTo d by_ j k) i = ⟨drawV by_ (j + 2 * i + 1) d.hours, drawV by_ (j + 2 * i + 2) d.dippers.length⟩ := by
  unfold mkTo
  rw [gt_map _ _ _ (by simpa using h)]
  simp [gt, List.getD, h]
theorem made_ok {d : Dips} (hv : dipsB d = true) (by_ : List Int) (j : Nat) (h : madeIs d = true) : PlOk d (madeL d by_ j) ∧ (madeL d by_ j).length = d.bathers.length := by
  have hn := dips_num hv
  unfold madeL madeIs at *
  split
  · rename_i h0
    rw [if_pos h0] at h
    exact ⟨fun i hi => by simp at hi, by have : (d.bathers.length : Int) = 0 := by simpa using h
                                         simp; omega⟩
  · rename_i h0
    refine ⟨fun i hi => ?_, mkTo_len _ _ _ _⟩
    rw [mkTo_len] at hi
    rw [mkTo_at _ _ _ _ _ hi]
    have h1 := drawV_num by_ (j + 2 * i + 1) hn.1.1
    have h2 := drawV_num by_ (j + 2 * i + 2) (n := d.dippers.length) (by omega)
    exact ⟨h1.1, h1.2, h2.1, h2.2⟩
/-! ### fits -/
def heldTo (l : List Plc) (nd : List Int) (x : Plc) : Nat → Int
  | 0 => 0
  | k + 1 => heldTo l nd x k + (if gt l k = x then gt nd k else 0)
def okF (d : Dips) (l : List Plc) (hands nd : List Int) (i : Nat) : Prop :=
  bitN (gt d.bathers i).hours (gt l i).hour ≠ 0 ∧ bitN (gt d.dippers (gt l i).dipper.toNat).hours (gt l i).hour ≠ 0 ∧ heldTo l nd (gt l i) (i + 1) ≤ gt hands (gt l i).dipper.toNat
instance (d : Dips) (l : List Plc) (hands nd : List Int) (i : Nat) : Decidable (okF d l hands nd i) := by unfold okF; infer_instance
def fitsB (d : Dips) (l : List Plc) (hands nd : List Int) : Bool := decide (∀ i, i < l.length → okF d l hands nd i)
theorem heldTo_num {l : List Plc} {nd : List Int} (x : Plc) : ∀ k, (∀ i, i < k → 0 ≤ gt nd i ∧ gt nd i ≤ 1000) → 0 ≤ heldTo l nd x k ∧ heldTo l nd x k ≤ 1000 * k := by
  intro k
  induction k with
  | zero => intro _; simp [heldTo]
  | succ k ih =>
    intro h
    have h1 := ih (fun i hi => h i (by omega))
    have h2 := h k (by omega)
    simp only [heldTo]
    split <;> omega
/-- a place by small numbers: what the map's keys are -/
abbrev PK := Fin 4 × Fin 3
def pkP (y : PK) : Plc := ⟨(y.1.val : Int), (y.2.val : Int)⟩
def pkV (y : PK) : Value := .agg #[it (y.1.val : Int), it (y.2.val : Int)]
theorem pkV_inj (x y : PK) (h : pkV x = pkV y) : x = y := by
  obtain ⟨⟨a, ha⟩, ⟨b, hb⟩⟩ := x
  obtain ⟨⟨c, hc⟩, ⟨e, he⟩⟩ := y
  simp only [pkV, Value.agg.injEq, it] at h
  simp at h
  obtain ⟨h1, h2⟩ := h
  have e1 : a = c := by omega
  have e2 : b = e := by omega
  subst e1; subst e2; rfl
theorem pkP_inj {x y : PK} (h : pkP x = pkP y) : x = y := by
  obtain ⟨⟨a, ha⟩, ⟨b, hb⟩⟩ := x
  obtain ⟨⟨c, hc⟩, ⟨e, he⟩⟩ := y
  simp only [pkP, Plc.mk.injEq] at h
  have h1 : a = c := by omega
  have h2 : b = e := by omega
  subst h1; subst h2; rfl
theorem key61 : Try.prog.keyType 61 = true := by kernel_rfl
theorem law61 : WideMaps.KeyLaw Try.prog 61 := deep_law_gate laidOut (Nat.le_of_ble_eq_true (by kernel_rfl)) (Nat.le_of_ble_eq_true (by kernel_rfl)) key61 (by kernel_rfl)
noncomputable def keyAllB : Bool := (List.range 4).all fun a => (List.range 3).all fun b => (keyOf Try.prog 61 (.agg #[.int .i64 (a : Int), .int .i64 (b : Int)])).isSome
theorem keyAll : keyAllB = true := by kernel_rfl
theorem key_pk (y : PK) : ∃ l, keyOf Try.prog 61 (pkV y) = some l := by
  have h := List.all_eq_true.1 (List.all_eq_true.1 keyAll y.1.val (List.mem_range.2 y.1.isLt)) y.2.val (List.mem_range.2 y.2.isLt)
  exact Option.isSome_iff_exists.1 h
theorem pk_of {x : Plc} (h1 : 0 ≤ x.hour) (h2 : x.hour < 4) (h3 : 0 ≤ x.dipper) (h4 : x.dipper < 3) : ∃ y : PK, pkP y = x ∧ pkV y = .agg #[it x.hour, it x.dipper] := by
  refine ⟨⟨⟨x.hour.toNat, by omega⟩, ⟨x.dipper.toNat, by omega⟩⟩, ?_, ?_⟩
  · cases x; simp only [pkP, Plc.mk.injEq]; dsimp only at *; omega
  · simp only [pkV]
    rw [Int.toNat_of_nonneg h1, Int.toNat_of_nonneg h3]
/-- what is held after so many bathers -/
def HeldF (l : List Plc) (nd : List Int) (k : Nat) (F : PK → Option Int) : Prop := ∀ y, (F y).getD 0 = heldTo l nd (pkP y) k
theorem HeldF.step {l : List Plc} {nd : List Int} {k : Nat} {F : PK → Option Int} {y : PK} (h : HeldF l nd k F) (hy : pkP y = gt l k) {u : Int} (hu : u = heldTo l nd (gt l k) k + gt nd k) : HeldF l nd (k + 1) (putF F y u) := fun z => by
  simp only [heldTo]
  by_cases e : z = y
  · subst e
    simp only [putF, if_true]
    rw [hy]; simp [hu]
  · have e2 : ¬ gt l k = pkP z := fun h' => e (pkP_inj (by rw [hy, h']))
    simp only [putF, if_neg e, if_neg e2]
    rw [h z]; omega
theorem HeldF.same {l : List Plc} {nd : List Int} {k : Nat} {F : PK → Option Int} {y : PK} (h : HeldF l nd k F) : HeldF l nd k (putF F y ((F y).getD 0)) := fun z => by
  by_cases e : z = y
  · subst e; simp only [putF, if_true]; exact h z
  · simp only [putF, if_neg e]; exact h z
/-! ### fits and the rules -/
theorem leftR_held {d : Dips} (l : List Plc) (best : Bool) (x : Plc) : ∀ k, k ≤ d.bathers.length → leftR d l best x k = hands0 best (gt d.dippers x.dipper.toNat) - heldTo l (d.bathers.map (need0 best)) x k := by
  intro k
  induction k with
  | zero => intro _; simp [leftR, heldTo]
  | succ k ih =>
    intro hk
    simp only [leftR, heldTo]
    rw [ih (by omega), gt_map _ _ _ (by omega)]
    split <;> omega
theorem bit_ne {s n : Int} (hs : 0 ≤ s) (hn : 0 ≤ n) (h64 : n ≤ 60) : hasB s n = true ↔ bitN s n ≠ 0 := by
  rw [bit_has hs hn h64, decide_eq_true_eq]
  have := bit_01 s n
  omega
theorem fits_rules {d : Dips} (hv : dipsB d = true) {l : List Plc} (hq : PlOk d l) (hl : l.length ≤ d.bathers.length) (best : Bool) (i : Nat) (hi : i < l.length) :
    okF d l (d.dippers.map (hands0 best)) (d.bathers.map (need0 best)) i ↔ brokenR d l i best = 0 := by
  have hx := hq i hi
  have hn := dips_num hv
  have hn1 := hn.2.2.2.1 (gt l i).dipper.toNat (by omega)
  have hn2 := hn.2.2.2.2 i (by omega)
  rw [brokenR_zero, leftR_held l best _ _ (by omega), bit_ne (by omega) (by omega) (by omega), bit_ne (by omega) (by omega) (by omega)]
  unfold okF
  rw [gt_map _ _ _ (by omega)]
  constructor
  · rintro ⟨a, b, c⟩; exact ⟨a, b, by omega⟩
  · rintro ⟨a, b, c⟩; exact ⟨a, b, by omega⟩
theorem fits_fine {d : Dips} (hv : dipsB d = true) {l : List Plc} (hq : PlOk d l) (hl : l.length ≤ d.bathers.length) (best : Bool) :
    fitsB d l (d.dippers.map (hands0 best)) (d.bathers.map (need0 best)) = fineR d l best := by
  unfold fitsB fineR
  rw [decide_eq_decide]
  exact ⟨fun h i hi => (fits_rules hv hq hl best i hi).1 (h i hi), fun h i hi => (fits_rules hv hq hl best i hi).2 (h i hi)⟩
theorem heldTo_le {l : List Plc} {nd nd' : List Int} (x : Plc) : ∀ k, (∀ i, i < k → gt nd' i ≤ gt nd i) → heldTo l nd' x k ≤ heldTo l nd x k := by
  intro k
  induction k with
  | zero => intro _; exact Int.le_refl _
  | succ k ih =>
    intro h
    have h1 := ih (fun i hi => h i (by omega))
    have h2 := h k (by omega)
    simp only [heldTo]
    split <;> omega
/-- more hands, less needs: what fits fits still -/
theorem fits_more {d : Dips} {l : List Plc} {hands hands' nd nd' : List Int} (hq : PlOk d l) (h1 : ∀ i, i < d.dippers.length → gt hands i ≤ gt hands' i) (h2 : ∀ i, i < l.length → gt nd' i ≤ gt nd i) (h : fitsB d l hands nd = true) : fitsB d l hands' nd' = true := by
  unfold fitsB at *
  rw [decide_eq_true_eq] at *
  intro i hi
  obtain ⟨a, b, c⟩ := h i hi
  have hx := hq i hi
  refine ⟨a, b, ?_⟩
  have g1 := h1 (gt l i).dipper.toNat (by omega)
  have g2 := heldTo_le (l := l) (nd := nd) (nd' := nd') (gt l i) (i + 1) (fun j hj => h2 j (by omega))
  omega
end Go.Proofs.Ytidjdonppfegiaa
/- What DipTrue says, in plain words. -/
namespace Go.Proofs.Ytidjdonppfegiaa
open Go.W Go.Dp
def hsTo (d : Dips) (by_ : List Int) (k : Nat) : List Int := (List.range k).map fun i => (gt d.dippers i).hands.lo + drawV by_ (i + 1) ((gt d.dippers i).hands.hi - (gt d.dippers i).hands.lo + 1)
def nsTo (d : Dips) (by_ : List Int) (j k : Nat) : List Int := (List.range k).map fun i => (gt d.bathers i).needs.lo + drawV by_ (j + i + 1) ((gt d.bathers i).needs.hi - (gt d.bathers i).needs.lo + 1)
theorem hsTo_succ (d : Dips) (by_ : List Int) (k : Nat) : hsTo d by_ (k + 1) = hsTo d by_ k ++ [(gt d.dippers k).hands.lo + drawV by_ (k + 1) ((gt d.dippers k).hands.hi - (gt d.dippers k).hands.lo + 1)] := by simp [hsTo, List.range_succ]
theorem nsTo_succ (d : Dips) (by_ : List Int) (j k : Nat) : nsTo d by_ j (k + 1) = nsTo d by_ j k ++ [(gt d.bathers k).needs.lo + drawV by_ (j + k + 1) ((gt d.bathers k).needs.hi - (gt d.bathers k).needs.lo + 1)] := by simp [nsTo, List.range_succ]
theorem hsTo_len (d : Dips) (by_ : List Int) (k : Nat) : (hsTo d by_ k).length = k := by simp [hsTo]
theorem nsTo_len (d : Dips) (by_ : List Int) (j k : Nat) : (nsTo d by_ j k).length = k := by simp [nsTo]
theorem gt_range_map (f : Nat → Int) (n i : Nat) (h : i < n) : gt ((List.range n).map f) i = f i := by simp [gt, List.getD, h]
theorem hsTo_num {d : Dips} (hv : dipsB d = true) (by_ : List Int) (k i : Nat) (hk : k ≤ d.dippers.length) (hi : i < k) : (gt d.dippers i).hands.lo ≤ gt (hsTo d by_ k) i ∧ gt (hsTo d by_ k) i ≤ (gt d.dippers i).hands.hi := by
  have hn := (dips_num hv).2.2.2.1 i (by omega)
  unfold hsTo
  rw [gt_range_map _ _ _ hi]
  have := drawV_num by_ (i + 1) (n := (gt d.dippers i).hands.hi - (gt d.dippers i).hands.lo + 1) (by omega)
  omega
theorem nsTo_num {d : Dips} (hv : dipsB d = true) (by_ : List Int) (j k i : Nat) (hk : k ≤ d.bathers.length) (hi : i < k) : (gt d.bathers i).needs.lo ≤ gt (nsTo d by_ j k) i ∧ gt (nsTo d by_ j k) i ≤ (gt d.bathers i).needs.hi := by
  have hn := (dips_num hv).2.2.2.2 i (by omega)
  unfold nsTo
  rw [gt_range_map _ _ _ hi]
  have := drawV_num by_ (j + i + 1) (n := (gt d.bathers i).needs.hi - (gt d.bathers i).needs.lo + 1) (by omega)
  omega
/-- the true hands -/
structure Truth (d : Dips) (hands nd : List Int) : Prop where
  l1 : hands.length = d.dippers.length
  l2 : nd.length = d.bathers.length
  h1 : ∀ i, i < d.dippers.length → (gt d.dippers i).hands.lo ≤ gt hands i ∧ gt hands i ≤ (gt d.dippers i).hands.hi
  h2 : ∀ i, i < d.bathers.length → (gt d.bathers i).needs.lo ≤ gt nd i ∧ gt nd i ≤ (gt d.bathers i).needs.hi
section
variable {d : Dips} {hands nd : List Int} {l : List Plc}
theorem worst_fits (hv : dipsB d = true) (hT : Truth d hands nd) (hq : PlOk d l) (hl : l.length = d.bathers.length) (h : fineR d l false = true) : fitsB d l hands nd = true := by
  refine fits_more hq (fun i hi => ?_) (fun i hi => ?_) ((fits_fine hv hq (by omega) false).trans h)
  · rw [gt_map _ _ _ hi]; exact (hT.h1 i hi).1
  · rw [gt_map _ _ _ (by omega)]; exact (hT.h2 i (by omega)).2
theorem fits_best (hv : dipsB d = true) (hT : Truth d hands nd) (hq : PlOk d l) (hl : l.length = d.bathers.length) (h : fitsB d l hands nd = true) : fineR d l true = true := by
  rw [← fits_fine hv hq (by omega) true]
  refine fits_more hq (fun i hi => ?_) (fun i hi => ?_) h
  · rw [gt_map _ _ _ hi]; exact (hT.h1 i hi).2
  · rw [gt_map _ _ _ (by omega)]; exact (hT.h2 i (by omega)).1
theorem good_fine (hq : PlOk d l) (hl : l.length = d.bathers.length) (best : Bool) : fineR d l best = true ↔ Good d best l := by
  unfold fineR Good
  rw [decide_eq_true_eq]
  exact ⟨fun h => ⟨hl, hq, h⟩, fun h => h.2.2⟩
theorem right_n (hv : dipsB d = true) (hq : PlOk d l) (hl : l.length = d.bathers.length) : (RightR d l).2 = 0 ∧ ((RightR d l).1 = 2 ↔ fineR d l false = true) ∧ ((RightR d l).1 = 0 ↔ fineR d l false = false ∧ fineR d l true = false) := by
  have hc : checkR d (listB d l) = 0 := by rw [list_of hv hq hl]; simp [checkR, hv]
  unfold RightR
  rw [if_neg (by rw [hc]; simp)]
  cases h1 : fineR d l false <;> cases h2 : fineR d l true <;> simp
theorem hope_n (hv : dipsB d = true) : (HopeOut d).2 = 0 ∧ ((HopeOut d).1 = 2 ↔ (planP d false).isSome = true) ∧ ((HopeOut d).1 = 0 ↔ (planP d false).isSome = false ∧ (planP d true).isSome = false) := by
  unfold HopeOut
  rw [hv]
  cases h1 : (planP d false).isSome <;> cases h2 : (planP d true).isSome <;> simp
theorem plan_n (hv : dipsB d = true) : ((PlanOut d).2 = 0 ∧ ∃ l, planP d false = some l ∧ (PlanOut d).1 = l) ∨ ((PlanOut d).2 = 4 ∧ planP d false = none ∧ (PlanOut d).1 = []) := by
  unfold PlanOut
  rw [hv]
  cases h : planP d false with
  | none => exact .inr ⟨rfl, rfl, rfl⟩
  | some l => exact .inl ⟨rfl, l, rfl, rfl⟩
theorem plan_hope (hv : dipsB d = true) : decide ((PlanOut d).2 = 0) = decide ((HopeOut d).1 = 2) := by
  rw [decide_eq_decide, (hope_n hv).2.1]
  rcases plan_n hv with ⟨h1, l, h2, _⟩ | ⟨h1, h2, _⟩
  · rw [h1, h2]; simp
  · rw [h1, h2]; simp
theorem plan_ok (hv : dipsB d = true) (h : (PlanOut d).2 = 0) : PlOk d (PlanOut d).1 ∧ (PlanOut d).1.length = d.bathers.length ∧ fineR d (PlanOut d).1 false = true := by
  rcases plan_n hv with ⟨h1, l, h2, h3⟩ | ⟨h1, _, _⟩
  · have hg := planP_good hv h2
    rw [h3]
    exact ⟨hg.2.1, hg.1, (good_fine hg.2.1 hg.1 false).2 hg⟩
  · omega
theorem plan_no (hv : dipsB d = true) (h : (PlanOut d).2 ≠ 0) : (PlanOut d).2 = 4 ∧ (PlanOut d).1.length = 0 := by
  rcases plan_n hv with ⟨h1, _⟩ | ⟨h1, _, h3⟩
  · exact absurd h1 h
  · exact ⟨h1, by rw [h3]; rfl⟩
theorem none_hope (hv : dipsB d = true) (h : madeIs d = false) : (HopeOut d).1 = 0 := by
  have key : ∀ best, (planP d best).isSome = false := fun best => by
    cases hc : (planP d best).isSome with
    | false => rfl
    | true =>
      obtain ⟨l, hl⟩ := (planP_some hv best).1 hc
      unfold madeIs at h
      split at h
      · rename_i h0
        have hne : ¬ ((d.bathers.length : Int) = 0) := by simpa using h
        have := hl.2.1 0 (by rw [hl.1]; omega)
        omega
      · cases h
  exact (hope_n hv).2.2.2 ⟨key false, key true⟩
theorem right_fits (hv : dipsB d = true) (hT : Truth d hands nd) (hq : PlOk d l) (hl : l.length = d.bathers.length) :
    ((RightR d l).1 = 2 → fitsB d l hands nd = true) ∧ ((RightR d l).1 = 0 → fitsB d l hands nd = false) ∧ ((HopeOut d).1 = 0 → fitsB d l hands nd = false) ∧ ((RightR d l).1 = 2 → (HopeOut d).1 = 2) ∧ ((RightR d l).1 ≠ 0 → (HopeOut d).1 ≠ 0) := by
  obtain ⟨r1, r2, r3⟩ := right_n hv hq hl
  obtain ⟨p1, p2, p3⟩ := hope_n hv
  have hgf := good_fine hq hl false
  have hgt := good_fine hq hl true
  have hno : fineR d l true = false → fitsB d l hands nd = false := fun h => by
    cases hc : fitsB d l hands nd with
    | false => rfl
    | true => rw [fits_best hv hT hq hl hc] at h; cases h
  refine ⟨fun h => worst_fits hv hT hq hl (r2.1 h), fun h => hno (r3.1 h).2, fun h => ?_, fun h => ?_, fun h hh => h ?_⟩
  · refine hno ?_
    cases hc : fineR d l true with
    | false => rfl
    | true => have := (planP_some hv true).2 ⟨l, hgt.1 hc⟩; rw [(p3.1 h).2] at this; cases this
  · exact p2.2 ((planP_some hv false).2 ⟨l, hgf.1 (r2.1 h)⟩)
  · refine r3.2 ⟨?_, ?_⟩
    · cases hc : fineR d l false with
      | false => rfl
      | true => have := (planP_some hv false).2 ⟨l, hgf.1 hc⟩; rw [(p3.1 hh).1] at this; cases this
    · cases hc : fineR d l true with
      | false => rfl
      | true => have := (planP_some hv true).2 ⟨l, hgt.1 hc⟩; rw [(p3.1 hh).2] at this; cases this
end
/-- hands in an hour, truly -/
def sumT (d : Dips) (hands : List Int) (h : Int) : Nat → Int
  | 0 => 0
  | k + 1 => if bitN (gt d.dippers k).hours h = 1 then sumT d hands h k + gt hands k else sumT d hands h k
theorem sumT_in {d : Dips} (hv : dipsB d = true) {hands nd : List Int} (hT : Truth d hands nd) {h : Int} (h0 : 0 ≤ h) (h60 : h ≤ 60) : ∀ k, k ≤ d.dippers.length → (handsR d h k).lo ≤ sumT d hands h k ∧ sumT d hands h k ≤ (handsR d h k).hi ∧ 0 ≤ sumT d hands h k ∧ sumT d hands h k ≤ 8 * k := by
  intro k
  induction k with
  | zero => intro _; simp [handsR, sumT]
  | succ k ih =>
    intro hk
    have h1 := ih (by omega)
    have h2 := hT.h1 k (by omega)
    have h3 := (dips_num hv).2.2.2.1 k (by omega)
    have h4 := bit_has (s := (gt d.dippers k).hours) (n := h) (by omega) h0 h60
    simp only [handsR, sumT]
    rw [h4]
    by_cases hb : bitN (gt d.dippers k).hours h = 1
    · rw [if_pos hb, if_pos (by simpa using hb)]; dsimp only; omega
    · rw [if_neg hb, if_neg (by simpa using hb)]; omega
theorem hands_ok {d : Dips} (hv : dipsB d = true) {h : Int} (h0 : 0 ≤ h) (h1 : h < d.hours) : HandsR d h = (handsR d h d.dippers.length, 0) := by
  have hb : hourB d h = true := by
    unfold hourB inB; rw [wrap_hours hv]; simp; omega
  unfold HandsR
  rw [hb, if_neg (by simp [checkR, hv])]
end Go.Proofs.Ytidjdonppfegiaa
/- What DipCheck says, in plain words. -/
namespace Go.Proofs.Ytidjdonppfegiaa
open Go.W Go.Dp
theorem firstR_spec (d : Dips) (l : List Plc) (best : Bool) : ∀ n i, (∀ j, i ≤ j → j < i + n → brokenR d l j best = 0) ∧ firstR d l best i n = (0, 0) ∨ ∃ k, i ≤ k ∧ k < i + n ∧ firstR d l best i n = ((k : Int), brokenR d l k best) ∧ brokenR d l k best ≠ 0 ∧ ∀ j, i ≤ j → j < k → brokenR d l j best = 0 := by
  intro n
  induction n with
  | zero => intro i; exact .inl ⟨fun j h1 h2 => by omega, rfl⟩
  | succ n ih =>
    intro i
    by_cases h : brokenR d l i best = 0
    · rw [firstR_step d l best i n h]
      rcases ih (i + 1) with ⟨h1, h2⟩ | ⟨k, h1, h2, h3, h4, h5⟩
      · refine .inl ⟨fun j g1 g2 => ?_, h2⟩
        by_cases e : j = i
        · rw [e]; exact h
        · exact h1 j (by omega) (by omega)
      · refine .inr ⟨k, by omega, by omega, h3, h4, fun j g1 g2 => ?_⟩
        by_cases e : j = i
        · rw [e]; exact h
        · exact h5 j (by omega) g2
    · exact .inr ⟨i, by omega, by omega, by simp [firstR, h], h, fun j g1 g2 => by omega⟩
section
variable {d : Dips} {l : List Plc}
theorem check_n (hv : dipsB d = true) (hq : PlOk d l) (hl : l.length = d.bathers.length) :
    ((CheckR d l).2.2 = 4 ∧ (CheckR d l).1 = 0 ∧ (CheckR d l).2.1 = 0 ∧ fineR d l false = true) ∨
    ((CheckR d l).2.2 = 0 ∧ ∃ k, k < l.length ∧ (CheckR d l).1 = (k : Int) ∧ (CheckR d l).2.1 = brokenR d l k false ∧ brokenR d l k false ≠ 0 ∧ ∀ i, i < k → brokenR d l i false = 0) := by
  have hc : checkR d (listB d l) = 0 := by rw [list_of hv hq hl]; simp [checkR, hv]
  unfold CheckR
  rw [if_neg (by rw [hc]; simp)]
  rcases firstR_spec d l false l.length 0 with ⟨h1, h2⟩ | ⟨k, h1, h2, h3, h4, h5⟩
  · rw [h2, if_neg (by simp)]
    refine .inl ⟨rfl, rfl, rfl, ?_⟩
    unfold fineR
    rw [decide_eq_true_eq]
    exact fun i hi => h1 i (Nat.zero_le _) (by omega)
  · rw [h3, if_pos h4]
    exact .inr ⟨rfl, k, by omega, rfl, rfl, h4, fun i hi => h5 i (Nat.zero_le _) hi⟩
theorem check_right (hv : dipsB d = true) (hq : PlOk d l) (hl : l.length = d.bathers.length) : decide ((CheckR d l).2.2 = 4) = decide ((RightR d l).1 = 2) := by
  rw [decide_eq_decide, (right_n hv hq hl).2.1]
  rcases check_n hv hq hl with ⟨h1, _, _, h4⟩ | ⟨h1, k, h2, _, _, h5, _⟩
  · exact ⟨fun _ => h4, fun _ => h1⟩
  · refine ⟨fun h => by omega, fun h => ?_⟩
    unfold fineR at h
    rw [decide_eq_true_eq] at h
    exact absurd (h k h2) h5
theorem take_ok (hq : PlOk d l) (n : Nat) : PlOk d (l.take n) := fun j hj => by
  rw [List.length_take] at hj
  have : gt (l.take n) j = gt l j := by simp [gt, List.getD, List.getElem?_take, show j < n by omega]
  rw [this]; exact hq j (by omega)
theorem gt_take (n j : Nat) (hj : j < n) : gt (l.take n) j = gt l j := by simp [gt, List.getD, List.getElem?_take, hj]
theorem take_fits (hv : dipsB d = true) (hq : PlOk d l) (hl : l.length = d.bathers.length) (n : Nat) (hn : n ≤ l.length) :
    fitsB d (l.take n) (d.dippers.map (hands0 false)) (d.bathers.map (need0 false)) = decide (∀ i, i < n → brokenR d l i false = 0) := by
  have hlen : (l.take n).length = n := by rw [List.length_take]; omega
  rw [fits_fine hv (take_ok hq n) (by omega) false]
  unfold fineR
  rw [decide_eq_decide, hlen]
  have hc : ∀ i, i < n → brokenR d (l.take n) i false = brokenR d l i false := fun i hi => brokenR_congr false fun j hj => gt_take n j (by omega)
  exact ⟨fun h i hi => by rw [← hc i hi]; exact h i hi, fun h i hi => by rw [hc i hi]; exact h i hi⟩
def hourB' (d : Dips) (l : List Plc) (k : Nat) : Bool := decide (bitN (gt d.bathers k).hours (gt l k).hour = 0) || decide (bitN (gt d.dippers (gt l k).dipper.toNat).hours (gt l k).hour = 0)
theorem rule_hour (hv : dipsB d = true) (hq : PlOk d l) (hl : l.length = d.bathers.length) {k : Nat} (hk : k < l.length) (hb : brokenR d l k false ≠ 0) : hourB' d l k = decide (brokenR d l k false = 1) ∧ (brokenR d l k false = 1 ∨ brokenR d l k false = 2) := by
  have hx := hq k hk
  have hn := dips_num hv
  have hn1 := hn.2.2.2.1 (gt l k).dipper.toNat (by omega)
  have hn2 := hn.2.2.2.2 k (by omega)
  have b1 := bit_ne (s := (gt d.bathers k).hours) (n := (gt l k).hour) (by omega) (by omega) (by omega)
  have b2 := bit_ne (s := (gt d.dippers (gt l k).dipper.toNat).hours) (n := (gt l k).hour) (by omega) (by omega) (by omega)
  unfold hourB'
  unfold brokenR at *
  split at hb
  · rename_i h
    rw [if_pos h]
    refine ⟨?_, .inl rfl⟩
    rcases h with h | h
    · have : bitN (gt d.bathers k).hours (gt l k).hour = 0 := by
        apply Classical.byContradiction; intro hh; rw [b1.2 hh] at h; cases h
      rw [decide_eq_true this]; rfl
    · have : bitN (gt d.dippers (gt l k).dipper.toNat).hours (gt l k).hour = 0 := by
        apply Classical.byContradiction; intro hh; rw [b2.2 hh] at h; cases h
      rw [decide_eq_true this, Bool.or_true]; rfl
  · rename_i h
    rw [if_neg h]
    have h1 : bitN (gt d.bathers k).hours (gt l k).hour ≠ 0 := b1.1 (by
      cases hc : hasB (gt d.bathers k).hours (gt l k).hour with
      | true => rfl
      | false => exact absurd (.inl hc) h)
    have h2 : bitN (gt d.dippers (gt l k).dipper.toNat).hours (gt l k).hour ≠ 0 := b2.1 (by
      cases hc : hasB (gt d.dippers (gt l k).dipper.toNat).hours (gt l k).hour with
      | true => rfl
      | false => exact absurd (.inr hc) h)
    split at hb
    · rename_i h3
      rw [if_pos h3]
      exact ⟨by rw [decide_eq_false h1, decide_eq_false h2]; rfl, .inr rfl⟩
    · exact absurd rfl hb
theorem check_range (hv : dipsB d = true) {p : List Plc} (hne : p.length ≠ d.bathers.length) : (CheckR d p).2.2 = 2 ∧ (RightR d p).2 = 2 := by
  have hb : listB d p = false := by
    cases hc : listB d p with
    | false => rfl
    | true => exact absurd ((listB_iff d p).1 hc).2 hne
  have hc : checkR d (listB d p) = 2 := by rw [hb]; simp [checkR, hv]
  unfold CheckR RightR
  rw [if_pos (by rw [hc]; simp), if_pos (by rw [hc]; simp), hc]
  exact ⟨rfl, rfl⟩
theorem hands_range (hv : dipsB d = true) {h : Int} (hh : h = d.hours ∨ h = -1) : (HandsR d h).2 = 2 := by
  have hb : hourB d h = false := by
    unfold hourB inB; rw [wrap_hours hv]; simp; have := (dips_num hv).1; omega
  have hc : checkR d (hourB d h) = 2 := by rw [hb]; simp [checkR, hv]
  unfold HandsR
  rw [if_pos (by rw [hc]; simp), hc]
theorem fine_mono (hv : dipsB d = true) (hq : PlOk d l) (hl : l.length ≤ d.bathers.length) (h : fineR d l false = true) : fineR d l true = true := by
  rw [← fits_fine hv hq hl] at *
  have hn := dips_num hv
  refine fits_more hq (fun i hi => ?_) (fun i hi => ?_) h
  · rw [gt_map _ _ _ hi, gt_map _ _ _ hi]; have := hn.2.2.2.1 i hi; show (gt d.dippers i).hands.lo ≤ (gt d.dippers i).hands.hi; omega
  · rw [gt_map _ _ _ (by omega), gt_map _ _ _ (by omega)]; have := hn.2.2.2.2 i (by omega); show (gt d.bathers i).needs.lo ≤ (gt d.bathers i).needs.hi; omega
theorem right_never (hv : dipsB d = true) (hq : PlOk d l) (hl : l.length = d.bathers.length) : decide ((RightR d l).1 = 0) = !fineR d l true := by
  have h := (right_n hv hq hl).2.2
  cases h2 : fineR d l true with
  | true => rw [h2] at h; exact decide_eq_false (fun hh => by have := (h.1 hh).2; cases this)
  | false =>
    have h1 : fineR d l false = false := by
      cases hc : fineR d l false with
      | false => rfl
      | true => rw [fine_mono hv hq (by omega) hc] at h2; cases h2
    exact decide_eq_true (h.2 ⟨h1, h2⟩)
theorem right_always (hv : dipsB d = true) (hq : PlOk d l) (hl : l.length = d.bathers.length) : decide ((RightR d l).1 = 2) = fineR d l false := by
  have h := (right_n hv hq hl).2.1
  cases h2 : fineR d l false with
  | true => exact decide_eq_true (h.2 h2)
  | false => exact decide_eq_false (fun hh => by rw [h.1 hh] at h2; cases h2)
end
theorem PlanR_snoc8 {D : Imm} {u : Nat} {t : TypeId} {fz : Nat × Nat} {b : List Plc} {x : Plc} {rest : List Value} {n : Nat} (hD : D u = some (.cells (b.flatMap placeC ++ placeC x ++ rest).toArray t fz)) (hn : n = b.length + 1) (hl : n ≤ 1000) : PlanR D (b ++ [x]) (some ⟨u, 0, none⟩) n := by
  refine PlanR.ofBlock (t := t) (fz := fz) (rest := rest) ?_ n (by simp [hn]) hl
  rw [List.flatMap_append]
  simpa using hD
theorem PlanR_take {D : Imm} {l : List Plc} {a : Option Addr} {n : Nat} (h : PlanR D l a n) (k : Nat) (hk : k ≤ n) : PlanR D (l.take k) a k := by
  have hn := h.pl.len'
  refine ⟨⟨by rw [List.length_map, List.length_take]; omega, fun i r hr => ?_⟩, by have := h.len; omega⟩
  rw [List.map_take, List.getElem?_take] at hr
  split at hr
  · exact h.pl.row i r hr
  · cases hr
def hTo (d : Dips) (best : Bool) (k : Nat) : List Int := (List.range k).map fun i => hands0 best (gt d.dippers i)
def nTo (d : Dips) (best : Bool) (k : Nat) : List Int := (List.range k).map fun i => need0 best (gt d.bathers i)
theorem hTo_len (d : Dips) (best : Bool) (k : Nat) : (hTo d best k).length = k := by simp [hTo]
theorem nTo_len (d : Dips) (best : Bool) (k : Nat) : (nTo d best k).length = k := by simp [nTo]
theorem range_gt {α β : Type} [Inhabited α] (f : α → β) (l : List α) : (List.range l.length).map (fun i => f (gt l i)) = l.map f := by
  apply List.ext_getElem (by simp)
  intro i h1 h2
  simp at h1
  simp [gt, List.getD, h1]
theorem hTo_all (d : Dips) (best : Bool) : hTo d best d.dippers.length = d.dippers.map (hands0 best) := range_gt _ _
theorem nTo_all (d : Dips) (best : Bool) : nTo d best d.bathers.length = d.bathers.map (need0 best) := range_gt _ _
def hC (d : Dips) (best : Bool) (k : Nat) : List Value := (hTo d best k).flatMap fun x => [it x]
def nC (d : Dips) (best : Bool) (k : Nat) : List Value := (nTo d best k).flatMap fun x => [it x]
theorem hC_len (d : Dips) (best : Bool) (k : Nat) : (hC d best k).length = k * 1 := by rw [hC, flat_len (m := 1) (fun _ => rfl), hTo_len]
theorem nC_len (d : Dips) (best : Bool) (k : Nat) : (nC d best k).length = k * 1 := by rw [nC, flat_len (m := 1) (fun _ => rfl), nTo_len]
theorem hC_succ (d : Dips) (best : Bool) (k : Nat) : hC d best (k + 1) = hC d best k ++ [it (hands0 best (gt d.dippers k))] := by
  rw [hC, hC, hTo, hTo, List.range_succ, List.map_append, List.flatMap_append]; rfl
theorem nC_succ (d : Dips) (best : Bool) (k : Nat) : nC d best (k + 1) = nC d best k ++ [it (need0 best (gt d.bathers k))] := by
  rw [nC, nC, nTo, nTo, List.range_succ, List.map_append, List.flatMap_append]; rfl
end Go.Proofs.Ytidjdonppfegiaa
/- Sets by their bits; what DipMost says, in plain words. -/
namespace Go.W
section
variable {P : Program} {x : Cx} {fr : Fr} {D : Imm} {hp : Hp} {ty : TypeId}
def anB (a b : Nat) : Nat := a - Nat.land a b
noncomputable def andNotAllB : Bool := (List.range 32).all fun a => (List.range 32).all fun b => decide (IntKind.i64.wrap ((BitVec.ofInt 64 (a : Int) &&& ~~~ BitVec.ofInt 64 (b : Int)).toNat) = ((anB a b : Nat) : Int))
theorem andNotAll : andNotAllB = true := by kernel_rfl
noncomputable def maskAllB : Bool := (List.range 256).all fun a => (List.range 6).all fun n => decide (IntKind.i64.wrap ((BitVec.ofInt 64 (a : Int) &&& BitVec.ofInt 64 ((2 ^ n - 1 : Nat) : Int)).toNat) = ((a % 2 ^ n : Nat) : Int))
theorem maskAll : maskAllB = true := by kernel_rfl
theorem Yd.andN {t t' : TypeId} {o p : Operand} {a b : Nat} (ha : a < 32) (hb : b < 32) (ho : opv fr o = some (nt a)) (hp' : opv fr p = some (nt b)) : Yd P x fr D hp (.binOp .andNot t o p t') ty (nt (anB a b)) :=
  .bin ho hp' fun w => by
    have : (Op.intBits .andNot .i64 (a : Int) (b : Int)).run P w = .ok (.int .i64 (IntKind.i64.wrap ((BitVec.ofInt 64 (a : Int) &&& ~~~ BitVec.ofInt 64 (b : Int)).toNat))) w := rfl
    have h := of_decide_eq_true (List.all_eq_true.1 (List.all_eq_true.1 andNotAll a (List.mem_range.2 ha)) b (List.mem_range.2 hb))
    rw [h] at this
    simp [Go.binOp, this, nt, it]
theorem Yd.andM {t t' : TypeId} {o p : Operand} {a n : Nat} (ha : a < 256) (hn : n ≤ 5) (ho : opv fr o = some (nt a)) (hp' : opv fr p = some (nt (2 ^ n - 1))) : Yd P x fr D hp (.binOp .and t o p t') ty (nt (a % 2 ^ n)) :=
  .bin ho hp' fun w => by
    have : (Op.intBits .and .i64 (a : Int) ((2 ^ n - 1 : Nat) : Int)).run P w = .ok (.int .i64 (IntKind.i64.wrap ((BitVec.ofInt 64 (a : Int) &&& BitVec.ofInt 64 ((2 ^ n - 1 : Nat) : Int)).toNat))) w := rfl
    have h := of_decide_eq_true (List.all_eq_true.1 (List.all_eq_true.1 maskAll a (List.mem_range.2 ha)) n (List.mem_range.2 (by omega)))
    rw [h] at this
    simp [Go.binOp, this, nt, it]
end
end Go.W
namespace Go.Proofs.Ytidjdonppfegiaa
open Go.W Go.Dp
theorem shlI (k : Nat) (hk : k ≤ 5) : IntKind.i64.wrap (1 * 2 ^ (min ((k : Int)).toNat IntKind.i64.bits)) = ((2 ^ k : Nat) : Int) := by
  rcases (show k = 0 ∨ k = 1 ∨ k = 2 ∨ k = 3 ∨ k = 4 ∨ k = 5 by omega) with rfl | rfl | rfl | rfl | rfl | rfl <;> decide
theorem bit_nat (s k : Nat) (hk : k ≤ 60) : bitN (s : Int) (k : Int) = 1 ↔ s / 2 ^ k % 2 = 1 := by
  have h := bit_has (s := (s : Int)) (n := (k : Int)) (by omega) (by omega) (by omega)
  rw [hasB_nat', decide_eq_decide] at h
  exact h.symm
  where hasB_nat' : hasB (s : Int) (k : Int) = decide (s / 2 ^ k % 2 = 1) := by
          unfold hasB
          have : ((s : Int) / ((2 ^ k : Nat) : Int) % 2 = 1) ↔ (s / 2 ^ k % 2 = 1) := by
            rw [← Int.natCast_ediv]; omega
          simp only [Int.toNat_natCast, this]
/-- without one, and within -/
noncomputable def anB1 : Bool := (List.range 32).all fun s => (List.range 5).all fun k => !(bitB s k) || (decide (anB s (2 ^ k) < s) && decide (pop (anB s (2 ^ k)) < pop s))
theorem anB_less {s k : Nat} (hs : s < 32) (hk : k < 5) (hb : s / 2 ^ k % 2 = 1) : anB s (2 ^ k) < s ∧ pop (anB s (2 ^ k)) < pop s := by
  have h0 : anB1 = true := by kernel_rfl
  have h1 := List.all_eq_true.1 (List.all_eq_true.1 h0 s (List.mem_range.2 hs)) k (List.mem_range.2 hk)
  have hbt : bitB s k = true := by simpa [bitB] using hb
  rw [hbt] at h1
  simpa using h1
noncomputable def anB2 : Bool := (List.range 32).all fun a => (List.range 32).all fun b => !(anB a b == 0) || (List.range 5).all fun k => !(bitB a k) || bitB b k
theorem anB_sub {a b : Nat} (ha : a < 32) (hb : b < 32) (h : anB a b = 0) : ∀ k, k < 5 → a / 2 ^ k % 2 = 1 → b / 2 ^ k % 2 = 1 := by
  have h0 : anB2 = true := by kernel_rfl
  have h1 := List.all_eq_true.1 (List.all_eq_true.1 h0 a (List.mem_range.2 ha)) b (List.mem_range.2 hb)
  rw [h] at h1
  intro k hk hbit
  have h2 : ∀ x, x < 5 → bitB a x = false ∨ bitB b x = true := by simpa using h1
  have hbt : bitB a k = true := by simpa [bitB] using hbit
  have h3 := (h2 k hk).resolve_left (by rw [hbt]; simp)
  simpa [bitB] using h3
theorem anB_le (a b : Nat) : anB a b ≤ a := Nat.sub_le _ _
/-! ### fewer bathers can as well -/
def leftS (d : Dips) (s : Nat) (l : List Plc) (x : Plc) : Nat → Int
  | 0 => hands0 false (gt d.dippers x.dipper.toNat)
  | k + 1 => leftS d s l x k - (if s / 2 ^ k % 2 = 1 ∧ gt l k = x then need0 false (gt d.bathers k) else 0)
def GoodS (d : Dips) (s : Nat) (l : List Plc) : Prop := ∀ i, i < d.bathers.length → s / 2 ^ i % 2 = 1 →
  (0 ≤ (gt l i).hour ∧ (gt l i).hour < d.hours ∧ 0 ≤ (gt l i).dipper ∧ (gt l i).dipper < d.dippers.length) ∧ hasB (gt d.bathers i).hours (gt l i).hour = true ∧ hasB (gt d.dippers (gt l i).dipper.toNat).hours (gt l i).hour = true ∧ 0 ≤ leftS d s l (gt l i) (i + 1)
theorem bath_at {d : Dips} {s k : Nat} (hk : k < d.bathers.length) (hb : s / 2 ^ k % 2 = 1) : gt (withB d s).bathers (cntS s k) = gt d.bathers k := by
  show gt (bTo d s d.bathers.length) (cntS s k) = _
  rw [bTo_eq]; exact sbTo_at d.bathers s hk hb
theorem leftS_eq {d : Dips} {s : Nat} {l l' : List Plc} (x : Plc) (h : ∀ k, k < d.bathers.length → s / 2 ^ k % 2 = 1 → gt l' (cntS s k) = gt l k) : ∀ k, k ≤ d.bathers.length → leftS d s l x k = leftR (withB d s) l' false x (cntS s k) := by
  intro k
  induction k with
  | zero => intro _; rfl
  | succ k ih =>
    intro hk
    simp only [leftS, cntS]
    by_cases hb : s / 2 ^ k % 2 = 1
    · rw [if_pos hb]
      simp only [leftR]
      rw [h k (by omega) hb, bath_at (by omega) hb, ih (by omega)]
      by_cases e : gt l k = x
      · rw [if_pos ⟨hb, e⟩, if_pos e]
      · rw [if_neg (fun hh => e hh.2), if_neg e]
    · rw [if_neg hb, if_neg (fun hh => hb hh.1), ih (by omega)]; omega
theorem withB_len (d : Dips) (s : Nat) : (withB d s).bathers.length = cntS s d.bathers.length := by
  show (bTo d s d.bathers.length).length = _
  rw [bTo_eq, sbTo_len]
theorem canW_iff {d : Dips} (hv : dipsB d = true) (s : Nat) : canW d s = true ↔ ∃ l, GoodS d s l := by
  unfold canW
  rw [planP_some (withB_ok hv s)]
  constructor
  · rintro ⟨l', h1, h2, h3⟩
    let l : List Plc := (List.range d.bathers.length).map fun i => gt l' (cntS s i)
    have hgl : ∀ i, i < d.bathers.length → gt l i = gt l' (cntS s i) := fun i hi => by simp [l, gt, List.getD, hi]
    have hcl : ∀ i, i < d.bathers.length → s / 2 ^ i % 2 = 1 → cntS s i < l'.length := fun i hi hb => by
      have e : cntS s (i + 1) = cntS s i + 1 := if_pos hb
      have := cntS_mono s (i + 1) (d.bathers.length - (i + 1))
      rw [show i + 1 + (d.bathers.length - (i + 1)) = d.bathers.length by omega] at this
      rw [h1, withB_len]; omega
    refine ⟨l, fun i hi hb => ?_⟩
    have hc := hcl i hi hb
    obtain ⟨g1, g2, g3⟩ := brokenR_zero.1 (h3 _ hc)
    rw [hgl i hi]
    rw [bath_at hi hb] at g1
    refine ⟨h2 _ hc, g1, g2, ?_⟩
    rw [leftS_eq _ (fun k hk hbk => (hgl k hk).symm) (i + 1) (by omega)]
    have e : cntS s (i + 1) = cntS s i + 1 := if_pos hb
    rw [e]; exact g3
  · rintro ⟨l, hl⟩
    refine ⟨sbTo l s d.bathers.length, ?_, fun j hj => ?_, fun i hi => ?_⟩
    · rw [sbTo_len, withB_len]
    · rw [sbTo_len] at hj
      obtain ⟨k, k1, k2, rfl⟩ := cntS_inv s _ j hj
      rw [sbTo_at l s k1 k2]
      exact (hl k k1 k2).1
    · rw [sbTo_len] at hi
      obtain ⟨k, k1, k2, rfl⟩ := cntS_inv s _ i hi
      obtain ⟨g0, g1, g2, g3⟩ := hl k k1 k2
      refine brokenR_zero.2 ?_
      rw [sbTo_at l s k1 k2, bath_at k1 k2]
      refine ⟨g1, g2, ?_⟩
      have := leftS_eq (l := l) (l' := sbTo l s d.bathers.length) (gt l k) (fun k hk hbk => sbTo_at l s hk hbk) (k + 1) (by omega)
      have e : cntS s (k + 1) = cntS s k + 1 := if_pos k2
      rw [e] at this
      rw [← this]; exact g3
theorem canW_sub {d : Dips} (hv : dipsB d = true) {s t : Nat} (hst : ∀ k, k < d.bathers.length → t / 2 ^ k % 2 = 1 → s / 2 ^ k % 2 = 1) (h : canW d s = true) : canW d t = true := by
  obtain ⟨l, hl⟩ := (canW_iff hv s).1 h
  refine (canW_iff hv t).2 ⟨l, fun i hi hb => ?_⟩
  obtain ⟨g0, g1, g2, g3⟩ := hl i hi (hst i hi hb)
  refine ⟨g0, g1, g2, ?_⟩
  have hle : ∀ x k, k ≤ d.bathers.length → leftS d s l x k ≤ leftS d t l x k := by
    intro x k
    induction k with
    | zero => intro _; exact Int.le_refl _
    | succ k ih =>
      intro hk
      have h1 := ih (by omega)
      have h2 := need_num hv false (i := k) (by omega)
      simp only [leftS]
      by_cases e : t / 2 ^ k % 2 = 1 ∧ gt l k = x
      · rw [if_pos e, if_pos ⟨hst k (by omega) e.1, e.2⟩]; omega
      · rw [if_neg e]; split <;> omega
  have := hle (gt l i) (i + 1) (by omega)
  omega
theorem plan_can {d : Dips} (hv : dipsB d = true) (s : Nat) : decide ((PlanOut (withB d s)).2 = 0) = canW d s := by
  unfold canW
  rcases plan_n (withB_ok hv s) with ⟨h1, l, h2, _⟩ | ⟨h1, h2, _⟩
  · rw [h1, h2]; rfl
  · rw [h1, h2]; rfl
theorem most_n {d : Dips} (hv : dipsB d = true) : ∃ s, MostC d s ∧ MostOut d = (((pop s : Nat) : Int), ((s : Nat) : Int), 0) := by
  have h5 := (dips_num hv).2.2.1
  obtain ⟨h1, h2⟩ := mostTo_char h5
  refine ⟨_, h1, ?_⟩
  unfold MostOut
  rw [hv, if_neg (by simp), h2]
theorem why_n {d : Dips} (hv : dipsB d = true) : (WhyOut d = (0, 4) ∧ ∀ t, canW d t = true) ∨ ∃ s, WhyOut d = (((s : Nat) : Int), 0) ∧ canW d s = false ∧ s < 2 ^ d.bathers.length ∧ (∀ t, t < 2 ^ d.bathers.length → canW d t = false → ¬ bef t s) ∧ canW d (2 ^ d.bathers.length - 1) = false := by
  have h5 := (dips_num hv).2.2.1
  have hp : 0 < 2 ^ d.bathers.length := Nat.pow_pos (by omega)
  have hi := isSome_plans hv false
  rw [why_eq]
  unfold WhyRef
  rw [hv, if_neg (by simp)]
  by_cases hz : (plansR d false).length ≠ 0
  · rw [if_pos hz]
    exact .inl ⟨rfl, canW_all hv (by rw [hi]; exact decide_eq_true hz)⟩
  · rw [if_neg hz]
    have hf : canW d (2 ^ d.bathers.length - 1) = false := by rw [canW_full h5, hi]; exact decide_eq_false hz
    obtain ⟨i1, i2, i3⟩ := whyRTo_char h5 hf (2 ^ d.bathers.length) (Nat.le_refl _)
    exact .inr ⟨_, rfl, i1, by omega, i3, hf⟩
def popFullEqB (n : Nat) : Bool := decide (pop (2 ^ n - 1) = n)
theorem pop_full_eq {n : Nat} (hn : n ≤ 5) : pop (2 ^ n - 1) = n := by
  have h : popFullEqB n = true := by
    rcases (show n = 0 ∨ n = 1 ∨ n = 2 ∨ n = 3 ∨ n = 4 ∨ n = 5 by omega) with rfl | rfl | rfl | rfl | rfl | rfl <;> kernel_rfl
  simpa only [popFullEqB, decide_eq_true_eq] using h
/-- all can just if the most are all -/
theorem most_all {d : Dips} (hv : dipsB d = true) {s : Nat} (h : MostC d s) : pop s = d.bathers.length ↔ canW d (2 ^ d.bathers.length - 1) = true := by
  have h5 := (dips_num hv).2.2.1
  have hp : 0 < 2 ^ d.bathers.length := Nat.pow_pos (by omega)
  constructor
  · intro he
    by_cases hs : s = 2 ^ d.bathers.length - 1
    · rw [← hs]; exact h.1
    · have := pop_full _ h5 s h.2.1 hs
      rw [pop_full_eq h5] at this; omega
  · intro hc
    have h1 := (h.2.2 _ (by omega) hc).1
    rw [pop_full_eq h5] at h1
    by_cases hs : s = 2 ^ d.bathers.length - 1
    · rw [hs]; exact pop_full_eq h5
    · have := pop_full _ h5 s h.2.1 hs
      rw [pop_full_eq h5] at this; omega
end Go.Proofs.Ytidjdonppfegiaa
/- Sizes of sets, step for step. -/
namespace Go.Proofs.Ytidjdonppfegiaa
open Go.W Go.Dp
def popK (s : Nat) : Nat → Nat
  | 0 => 0
  | k + 1 => popK s k + s / 2 ^ k % 2
def popKB : Bool := (List.range 32).all fun s => (List.range 6).all fun k => !(s / 2 ^ k == 0) || popK s k == pop s
theorem popK_pop {s k : Nat} (hs : s < 32) (hk : k < 6) (h : s / 2 ^ k = 0) : popK s k = pop s := by
  have h0 : popKB = true := by kernel_rfl
  have h1 := List.all_eq_true.1 (List.all_eq_true.1 h0 s (List.mem_range.2 hs)) k (List.mem_range.2 hk)
  rw [h] at h1
  simpa using h1
theorem popK_le (s : Nat) : ∀ k, popK s k ≤ k := by
  intro k; induction k with
  | zero => exact Nat.le_refl _
  | succ k ih => simp only [popK]; omega
theorem half_pow (s k : Nat) : s / 2 ^ (k + 1) = s / 2 ^ k / 2 := by rw [Nat.pow_succ, Nat.div_div_eq_div_mul]
theorem hasB_nat (u : Nat) (n : Int) : hasB (u : Int) n = decide (u / 2 ^ n.toNat % 2 = 1) := by
  unfold hasB
  have : ((u : Int) / ((2 ^ n.toNat : Nat) : Int) % 2 = 1) ↔ (u / 2 ^ n.toNat % 2 = 1) := by
    rw [← Int.natCast_ediv]; omega
  simp only [this]
theorem sets_num {n : Nat} (hn : n ≤ 5) : 1 ≤ 2 ^ n ∧ 2 ^ n ≤ 32 := ⟨Nat.one_le_two_pow, by have := Nat.pow_le_pow_right (n := 2) (by omega) hn; simpa using this⟩
end Go.Proofs.Ytidjdonppfegiaa
/- What DipFirst says, in plain words. -/
namespace Go.Proofs.Ytidjdonppfegiaa
open Go.W Go.Dp
def plLt (x y : Plc) : Prop := x.hour < y.hour ∨ (x.hour = y.hour ∧ x.dipper < y.dipper)
theorem allPl_sorted (d : Dips) : (allPl d).Pairwise plLt := by
  unfold allPl
  rw [List.pairwise_flatMap]
  refine ⟨fun hr _ => ?_, ?_⟩
  · unfold rowPl
    rw [List.pairwise_map]
    refine List.Pairwise.imp ?_ List.pairwise_lt_range
    intro a b h
    exact .inr ⟨rfl, by show (a : Int) < (b : Int); omega⟩
  · refine List.Pairwise.imp ?_ List.pairwise_lt_range
    intro a b h x hx y hy
    unfold rowPl at hx hy
    obtain ⟨k, _, rfl⟩ := List.mem_map.1 hx
    obtain ⟨j, _, rfl⟩ := List.mem_map.1 hy
    exact .inl (by show (a : Int) < (b : Int); omega)
theorem pairwise_head {α β : Type} {R : α → α → Prop} (f : α → List β) : ∀ (l : List α), l.Pairwise R → ∀ h m : β, (l.flatMap f).head? = some h → m ∈ l.flatMap f → ∃ x y, x ∈ l ∧ y ∈ l ∧ (f x).head? = some h ∧ m ∈ f y ∧ (x = y ∨ R x y)
  | [], _, h, m, hh, _ => by cases hh
  | a :: l, hp, h, m, hh, hm => by
    rw [List.flatMap_cons] at hh hm
    cases hf : f a with
    | nil =>
      rw [hf, List.nil_append] at hh hm
      obtain ⟨x, y, h1, h2, h3, h4, h5⟩ := pairwise_head f l (List.pairwise_cons.1 hp).2 h m hh hm
      exact ⟨x, y, List.mem_cons_of_mem _ h1, List.mem_cons_of_mem _ h2, h3, h4, h5⟩
    | cons b r =>
      have hh' : b = h := by rw [hf] at hh; simpa using hh
      rcases List.mem_append.1 hm with g | g
      · exact ⟨a, a, List.mem_cons_self .., List.mem_cons_self .., by rw [hf, ← hh']; rfl, g, .inl rfl⟩
      · obtain ⟨y, hy, hmy⟩ := List.mem_flatMap.1 g
        exact ⟨a, y, List.mem_cons_self .., List.mem_cons_of_mem _ hy, by rw [hf, ← hh']; rfl, hmy, .inr ((List.pairwise_cons.1 hp).1 y hy)⟩
theorem plR_at {d : Dips} (hh : 0 ≤ d.hours) {best : Bool} {rem : Nat} {b m : List Plc} (h : m ∈ plR d best rem b) : m.length = b.length + rem ∧ ∀ i, i < b.length → gt m i = gt b i := by
  obtain ⟨t, rfl, ht, _⟩ := (mem_plR hh best rem b m).1 h
  exact ⟨by simp [ht], fun i hi => gt_app_lt _ _ _ hi⟩
theorem plR_first {d : Dips} (hh : 0 ≤ d.hours) (best : Bool) : ∀ (rem : Nat) (b l m : List Plc), (plR d best rem b).head? = some l → m ∈ plR d best rem b → ∀ k, k < l.length → (∀ i, i < k → gt l i = gt m i) → gt l k ≠ gt m k → plLt (gt l k) (gt m k) := by
  intro rem
  induction rem with
  | zero =>
    intro b l m hl hm k hk _ hne
    simp [plR] at hl hm
    subst hl; subst hm
    exact absurd rfl hne
  | succ rem ih =>
    intro b l m hl hm k hk heq hne
    simp only [plR] at hl hm
    obtain ⟨x, y, _, _, hx, hy, hxy⟩ := pairwise_head _ _ (allPl_sorted d) l m hl hm
    split at hx
    · split at hy
      · have hlx := plR_at hh (List.mem_of_head? hx)
        have hly := plR_at hh hy
        rcases hxy with e | e
        · subst e
          exact ih (b ++ [x]) l m hx hy k hk heq hne
        · have g1 : gt l b.length = x := by rw [hlx.2 b.length (by simp), gt_app_at]
          have g2 : gt m b.length = y := by rw [hly.2 b.length (by simp), gt_app_at]
          have hxy' : x ≠ y := fun e' => by subst e'; unfold plLt at e; omega
          rcases Nat.lt_trichotomy k b.length with c | c | c
          · have h1 := hlx.2 k (by simp; omega)
            have h2 := hly.2 k (by simp; omega)
            rw [gt_app_lt _ _ _ c] at h1 h2
            exact absurd (h1.trans h2.symm) hne
          · subst c; rw [g1, g2]; exact e
          · exact absurd (by rw [← g1, ← g2]; exact heq b.length c) hxy'
      · cases hy
    · cases hx
theorem plan_first {d : Dips} (hv : dipsB d = true) {l m : List Plc} (h : planP d false = some l) (hm : Good d false m) (k : Nat) (hk : k < l.length) (heq : ∀ i, i < k → gt l i = gt m i) (hne : gt l k ≠ gt m k) : plLt (gt l k) (gt m k) := by
  have hh : 0 ≤ d.hours := by have := (dips_num hv).1; omega
  rw [planP_head hv] at h
  exact plR_first hh false d.bathers.length [] l m h ((mem_plans hh false m).2 hm) k hk heq hne
theorem few_n {d : Dips} (hv : dipsB d = true) : ((PlanOut d).2 = 4 ∧ FewestOut d = (0, 4) ∧ (PlanOut d).1.length = 0 ∧ (planP d false).isSome = false) ∨
    ((PlanOut d).2 = 0 ∧ planP d false = some (PlanOut d).1 ∧ ∃ s, FewestOut d = (((s : Nat) : Int), 0) ∧ byCan d s = true ∧ s < 2 ^ d.dippers.length ∧ (∀ t, t < 2 ^ d.dippers.length → byCan d t = true → ¬ bef t s)) := by
  have h3 := (dips_num hv).2.1
  rcases plan_n hv with ⟨h1, l, h2, h4⟩ | ⟨h1, h2, h4⟩
  · refine .inr ⟨h1, by rw [h4]; exact h2, ?_⟩
    have hg := planP_good hv h2
    have hcan : byCan d (usedR l) = true := (byCan_iff hv _).2 ⟨l, hg, fun j _ h => h⟩
    have hlt := used_lt hv hg
    unfold FewestOut
    rw [hv, if_neg (by simp)]
    cases hc : (fstP (setsL d.dippers.length) (byCan d)).2 with
    | false => rw [fstP_none (by omega) hc _ hlt] at hcan; cases hcan
    | true =>
      obtain ⟨s1, s2, s3⟩ := fstP_some (show d.dippers.length ≤ 5 by omega) hc
      exact ⟨_, by simp, s1, s2, s3⟩
  · refine .inl ⟨h1, ?_, by rw [h4]; rfl, by rw [h2]; rfl⟩
    unfold FewestOut
    rw [hv, if_neg (by simp)]
    have : (fstP (setsL d.dippers.length) (byCan d)).2 = false := fstP_none' (by omega) fun t _ => by
      cases hc : byCan d t with
      | false => rfl
      | true =>
        obtain ⟨l, hl, _⟩ := (byCan_iff hv t).1 hc
        have := (planP_some hv false).2 ⟨l, hl⟩
        rw [h2] at this; cases this
    rw [this]; rfl
theorem plan_by {d : Dips} (hv : dipsB d = true) (s : Nat) : decide ((PlanOut (byB d s)).2 = 0) = byCan d s := by
  unfold byCan
  rcases plan_n (byB_ok hv s) with ⟨h1, l, h2, _⟩ | ⟨h1, h2, _⟩
  · rw [h1, h2]; rfl
  · rw [h1, h2]; rfl
end Go.Proofs.Ytidjdonppfegiaa
/- What DipMore says, in plain words: more hands, hours or dippers, fewer needs; one bather less. -/
namespace Go.Proofs.Ytidjdonppfegiaa
open Go.W Go.Dp
structure Bet (d x : Dips) : Prop where
  hours : x.hours = d.hours
  bl : x.bathers.length = d.bathers.length
  dl : d.dippers.length ≤ x.dippers.length
  hand : ∀ i, i < d.dippers.length → ∀ best, hands0 best (gt d.dippers i) ≤ hands0 best (gt x.dippers i)
  dh : ∀ i, i < d.dippers.length → ∀ h, hasB (gt d.dippers i).hours h = true → hasB (gt x.dippers i).hours h = true
  need : ∀ i, i < d.bathers.length → ∀ best, need0 best (gt x.bathers i) ≤ need0 best (gt d.bathers i)
  bh : ∀ i, i < d.bathers.length → ∀ h, hasB (gt d.bathers i).hours h = true → hasB (gt x.bathers i).hours h = true
theorem leftR_bet {d x : Dips} (h : Bet d x) (l : List Plc) (best : Bool) (y : Plc) (hy : y.dipper.toNat < d.dippers.length) : ∀ k, k ≤ d.bathers.length → leftR d l best y k ≤ leftR x l best y k := by
  intro k
  induction k with
  | zero => intro _; exact h.hand _ hy best
  | succ k ih =>
    intro hk
    have h1 := ih (by omega)
    have h2 := h.need k (by omega) best
    simp only [leftR]
    split <;> omega
theorem good_bet {d x : Dips} (h : Bet d x) {best : Bool} {l : List Plc} (hg : Good d best l) : Good x best l := by
  obtain ⟨h1, h2, h3⟩ := hg
  have hdl := h.dl
  refine ⟨by rw [h.bl]; exact h1, fun j hj => ?_, fun i hi => ?_⟩
  · have := h2 j hj
    rw [h.hours]; omega
  · have hx := h2 i hi
    obtain ⟨g1, g2, g3⟩ := brokenR_zero.1 (h3 i hi)
    refine brokenR_zero.2 ⟨h.bh i (by omega) _ g1, h.dh _ (by omega) _ g2, ?_⟩
    have := leftR_bet h l best (gt l i) (by omega) (i + 1) (by omega)
    omega
section
variable {d x : Dips}
theorem some_bet (h : Bet d x) (hv : dipsB d = true) (hx : dipsB x = true) {best : Bool} (hp : (planP d best).isSome = true) : (planP x best).isSome = true := by
  obtain ⟨l, hl⟩ := (planP_some hv best).1 hp
  exact (planP_some hx best).2 ⟨l, good_bet h hl⟩
theorem hope_bet (h : Bet d x) (hv : dipsB d = true) (hx : dipsB x = true) : (HopeOut d).1 ≤ (HopeOut x).1 := by
  have g1 := some_bet h hv hx (best := false)
  have g2 := some_bet h hv hx (best := true)
  unfold HopeOut
  rw [hv, hx]
  cases h1 : (planP d false).isSome <;> cases h2 : (planP d true).isSome <;> cases h3 : (planP x false).isSome <;> cases h4 : (planP x true).isSome <;> simp_all
theorem with_bet (h : Bet d x) (s : Nat) : Bet (withB d s) (withB x s) := by
  have e1 : (withB d s).bathers.length = cntS s d.bathers.length := withB_len d s
  have e2 : (withB x s).bathers.length = cntS s d.bathers.length := by rw [withB_len, h.bl]
  refine ⟨h.hours, by rw [e1, e2], h.dl, h.hand, h.dh, fun i hi best => ?_, fun i hi hh => ?_⟩
  · rw [e1] at hi
    obtain ⟨k, k1, k2, rfl⟩ := cntS_inv s _ i hi
    rw [bath_at k1 k2, bath_at (by rw [h.bl]; exact k1) k2]
    exact h.need k k1 best
  · rw [e1] at hi
    obtain ⟨k, k1, k2, rfl⟩ := cntS_inv s _ i hi
    rw [bath_at k1 k2, bath_at (by rw [h.bl]; exact k1) k2]
    exact h.bh k k1 hh
theorem most_bet (h : Bet d x) (hv : dipsB d = true) (hx : dipsB x = true) {s t : Nat} (hs : MostC d s) (ht : MostC x t) : pop s ≤ pop t := by
  have hc : canW x s = true := some_bet (with_bet h s) (withB_ok hv s) (withB_ok hx s) hs.1
  exact (ht.2.2 s (by rw [h.bl]; exact hs.2.1) hc).1
theorem few_bet (h : Bet d x) (hv : dipsB d = true) (hx : dipsB x = true) {s t : Nat} (hs : byCan d s = true) (hsl : s < 2 ^ d.dippers.length) (hmin : ∀ u, u < 2 ^ x.dippers.length → byCan x u = true → ¬ bef u t) : pop t ≤ pop s := by
  obtain ⟨l, hl, hsub⟩ := (byCan_iff hv s).1 hs
  have hc : byCan x s = true := (byCan_iff hx s).2 ⟨l, good_bet h hl, hsub⟩
  have h2 : 2 ^ d.dippers.length ≤ 2 ^ x.dippers.length := Nat.pow_le_pow_right (by omega) h.dl
  have := hmin s (by omega) hc
  unfold bef at this
  omega
end
/-! ### one bather less -/
def embS (i t : Nat) : Nat := t % 2 ^ i + t / 2 ^ i * 2 ^ (i + 1)
def prjS (i s : Nat) : Nat := s % 2 ^ i + s / 2 ^ (i + 1) * 2 ^ i
def cutN (i k : Nat) : Nat := if k ≤ i then k else k - 1
def embB : Bool := (List.range 6).all fun n => (List.range n).all fun i =>
  ((List.range (2 ^ (n - 1))).all fun t => decide (embS i t < 2 ^ n) && (pop (embS i t) == pop t) && (List.range n).all fun k => bitB (embS i t) k == (k != i && bitB t (cutN i k))) &&
  ((List.range (2 ^ n)).all fun s => decide (prjS i s < 2 ^ (n - 1)) && decide (pop s ≤ pop (prjS i s) + 1) && (List.range n).all fun k => k == i || (bitB (prjS i s) (cutN i k) == bitB s k)) &&
  ((List.range n).all fun k => bitB (2 ^ n - 1 - 2 ^ i) k == (k != i)) && (List.range (n + 1)).all fun k => cntS (2 ^ n - 1 - 2 ^ i) k == cutN i k
theorem emb_ok : embB = true := by kernel_rfl
theorem emb_facts {n i : Nat} (hn : n ≤ 5) (hi : i < n) :
    (∀ t, t < 2 ^ (n - 1) → embS i t < 2 ^ n ∧ pop (embS i t) = pop t ∧ ∀ k, k < n → bitB (embS i t) k = (k != i && bitB t (cutN i k))) ∧
    (∀ s, s < 2 ^ n → prjS i s < 2 ^ (n - 1) ∧ pop s ≤ pop (prjS i s) + 1 ∧ ∀ k, k < n → k ≠ i → bitB (prjS i s) (cutN i k) = bitB s k) ∧
    (∀ k, k < n → bitB (2 ^ n - 1 - 2 ^ i) k = (k != i)) ∧ ∀ k, k ≤ n → cntS (2 ^ n - 1 - 2 ^ i) k = cutN i k := by
  have h := List.all_eq_true.1 (List.all_eq_true.1 emb_ok n (List.mem_range.2 (by omega))) i (List.mem_range.2 hi)
  simp only [Bool.and_eq_true] at h
  obtain ⟨⟨⟨h1, h2⟩, h3⟩, h4⟩ := h
  refine ⟨fun t ht => ?_, fun s hs => ?_, fun k hk => ?_, fun k hk => ?_⟩
  · have := List.all_eq_true.1 h1 t (List.mem_range.2 ht)
    simp only [Bool.and_eq_true, decide_eq_true_eq, beq_iff_eq] at this
    exact ⟨this.1.1, this.1.2, fun k hk => by have h9 := List.all_eq_true.1 this.2 k (List.mem_range.2 hk); simpa using h9⟩
  · have := List.all_eq_true.1 h2 s (List.mem_range.2 hs)
    simp only [Bool.and_eq_true, decide_eq_true_eq] at this
    refine ⟨this.1.1, this.1.2, fun k hk hki => ?_⟩
    have h9 := List.all_eq_true.1 this.2 k (List.mem_range.2 hk)
    have hf : (k == i) = false := by simpa using hki
    rw [hf, Bool.false_or] at h9
    simpa using h9
  · have := List.all_eq_true.1 h3 k (List.mem_range.2 hk); simpa using this
  · have := List.all_eq_true.1 h4 k (List.mem_range.2 (by omega)); simpa using this
theorem bit_iff (u k : Nat) : bitB u k = true ↔ u / 2 ^ k % 2 = 1 := by simp [bitB]
/-- the sets of the others: as sets of all, and back -/
theorem good_drop {d : Dips} (h5 : d.bathers.length ≤ 5) {i : Nat} (hi : i < d.bathers.length) {s t : Nat} {l l' : List Plc}
    (hbit : ∀ k, k < d.bathers.length → bitB s k = (k != i && bitB t (cutN i k))) (hll : ∀ k, k < d.bathers.length → k ≠ i → gt l' (cutN i k) = gt l k) :
    GoodS d s l ↔ GoodS (withB d (2 ^ d.bathers.length - 1 - 2 ^ i)) t l' := by
  obtain ⟨_, _, f3, f4⟩ := emb_facts h5 hi
  have hlen : (withB d (2 ^ d.bathers.length - 1 - 2 ^ i)).bathers.length = cutN i d.bathers.length := by rw [withB_len, f4 _ (Nat.le_refl _)]
  have hb : ∀ k, k < d.bathers.length → k ≠ i → gt (withB d (2 ^ d.bathers.length - 1 - 2 ^ i)).bathers (cutN i k) = gt d.bathers k := fun k hk hki => by
    rw [← f4 k (by omega)]
    exact bath_at hk ((bit_iff _ _).1 (by rw [f3 k hk]; simpa using hki))
  have hleft : ∀ y k, k ≤ d.bathers.length → leftS (withB d (2 ^ d.bathers.length - 1 - 2 ^ i)) t l' y (cutN i k) = leftS d s l y k := by
    intro y k
    induction k with
    | zero => intro _; rfl
    | succ k ih =>
      intro hk
      have h1 := ih (by omega)
      have hbk := hbit k (by omega)
      by_cases e : k = i
      · subst e
        have hc : cutN k (k + 1) = cutN k k := by unfold cutN; simp
        have hs0 : ¬ s / 2 ^ k % 2 = 1 := fun hh => by
          have := (bit_iff s k).2 hh
          rw [hbk] at this; simp at this
        rw [hc, h1]
        simp only [leftS]
        rw [if_neg (fun hh => hs0 hh.1)]; omega
      · have hc : cutN i (k + 1) = cutN i k + 1 := by unfold cutN; split <;> split <;> omega
        rw [hc]
        simp only [leftS]
        rw [h1, hll k (by omega) e, hb k (by omega) e]
        have hbb : (t / 2 ^ cutN i k % 2 = 1) ↔ (s / 2 ^ k % 2 = 1) := by
          rw [← bit_iff, ← bit_iff, hbk]
          have : (k != i) = true := by simpa using e
          rw [this, Bool.true_and]
        simp only [hbb]
  have hcl : ∀ k, k < d.bathers.length → k ≠ i → cutN i k < cutN i d.bathers.length := fun k hk hki => by unfold cutN; split <;> split <;> omega
  have hcs : ∀ k, k ≠ i → cutN i (k + 1) = cutN i k + 1 := fun k hki => by unfold cutN; split <;> split <;> omega
  have hbt : ∀ k, k < d.bathers.length → k ≠ i → ((t / 2 ^ cutN i k % 2 = 1) ↔ (s / 2 ^ k % 2 = 1)) := fun k hk hki => by
    rw [← bit_iff, ← bit_iff, hbit k hk]
    have : (k != i) = true := by simpa using hki
    rw [this, Bool.true_and]
  constructor
  · intro h j hj hbj
    rw [hlen] at hj
    obtain ⟨k, hk, hki, rfl⟩ : ∃ k, k < d.bathers.length ∧ k ≠ i ∧ cutN i k = j := by
      by_cases e : j < i
      · exact ⟨j, by omega, by omega, by unfold cutN; rw [if_pos (by omega)]⟩
      · refine ⟨j + 1, ?_, by omega, by unfold cutN; rw [if_neg (by omega)]; omega⟩
        unfold cutN at hj; split at hj <;> omega
    obtain ⟨g0, g1, g2, g3⟩ := h k hk ((hbt k hk hki).1 hbj)
    rw [hll k hk hki, hb k hk hki, ← hcs k hki, hleft _ _ (by omega)]
    exact ⟨g0, g1, g2, g3⟩
  · intro h k hk hbk
    have hki : k ≠ i := fun e => by
      subst e
      have := (bit_iff s k).2 hbk
      rw [hbit k hk] at this; simp at this
    have h9 := h (cutN i k) (by rw [hlen]; exact hcl k hk hki) ((hbt k hk hki).2 hbk)
    rw [hll k hk hki, hb k hk hki, ← hcs k hki, hleft _ _ (by omega)] at h9
    exact h9
theorem gt_rangeP {α : Type} [Inhabited α] (f : Nat → α) (n i : Nat) (h : i < n) : gt ((List.range n).map f) i = f i := by simp [gt, List.getD, h]
theorem most_drop {d : Dips} (hv : dipsB d = true) {i : Nat} (hi : i < d.bathers.length) {s t : Nat} (hs : MostC d s) (ht : MostC (withB d (2 ^ d.bathers.length - 1 - 2 ^ i)) t) : pop t ≤ pop s ∧ pop s ≤ pop t + 1 := by
  have h5 := (dips_num hv).2.2.1
  obtain ⟨f1, f2, _, f4⟩ := emb_facts h5 hi
  have hv' := withB_ok hv (2 ^ d.bathers.length - 1 - 2 ^ i)
  have hlen : (withB d (2 ^ d.bathers.length - 1 - 2 ^ i)).bathers.length = d.bathers.length - 1 := by
    rw [withB_len, f4 _ (Nat.le_refl _)]; unfold cutN; rw [if_neg (by omega)]
  obtain ⟨t1, t2, t3⟩ := ht
  rw [hlen] at t2 t3
  obtain ⟨s1, s2, s3⟩ := hs
  constructor
  · obtain ⟨e1, e2, e3⟩ := f1 t t2
    obtain ⟨l', hl'⟩ := (canW_iff hv' t).1 t1
    have : canW d (embS i t) = true := (canW_iff hv _).2 ⟨(List.range d.bathers.length).map fun k => gt l' (cutN i k), (good_drop h5 hi e3 (fun k hk hki => by rw [gt_rangeP _ _ _ hk])).2 hl'⟩
    have := (s3 _ e1 this).1
    omega
  · obtain ⟨e1, e2, e3⟩ := f2 s s2
    -- without i the others of s can as well
    let s' := embS i (prjS i s)
    obtain ⟨g1, g2, g3⟩ := f1 (prjS i s) e1
    have hsub : canW d (embS i (prjS i s)) = true := canW_sub hv (s := s) (fun k hk hb => by
      have h9 := (bit_iff _ _).2 hb
      rw [g3 k hk] at h9
      have hki : k ≠ i := fun e => by subst e; simp at h9
      have : (k != i) = true := by simpa using hki
      rw [this, Bool.true_and, e3 k hk hki] at h9
      exact (bit_iff _ _).1 h9) s1
    obtain ⟨l, hl⟩ := (canW_iff hv _).1 hsub
    have hc : canW (withB d (2 ^ d.bathers.length - 1 - 2 ^ i)) (prjS i s) = true := (canW_iff hv' _).2 ⟨(List.range (d.bathers.length - 1)).map fun j => gt l (if j < i then j else j + 1), (good_drop h5 hi g3 (fun k hk hki => by
      rw [gt_rangeP _ _ _ (by unfold cutN; split <;> omega)]
      congr 1
      unfold cutN; split <;> split <;> omega)).1 hl⟩
    have := (t3 _ e1 hc).1
    omega
end Go.Proofs.Ytidjdonppfegiaa
/- What DipMore changes: one dipper more, more hands, hours or fewer needs. -/
namespace Go.W
section
variable {P : Program} {x : Cx} {fr : Fr} {D : Imm} {hp : Hp} {ty : TypeId}
def orI (i : Int) (b : Nat) : Int := ((Nat.lor i.toNat b : Nat) : Int)
theorem Yd.orI {t t' : TypeId} {o p : Operand} {i : Int} {b : Nat} (h0 : 0 ≤ i) (hi : i < 32) (hb : b < 32) (ho : opv fr o = some (it i)) (hp' : opv fr p = some (nt b)) : Yd P x fr D hp (.binOp .or t o p t') ty (it (orI i b)) := by
  obtain ⟨a, rfl⟩ := Int.eq_ofNat_of_zero_le h0
  exact Yd.orN (a := a) (by omega) hb ho hp'
end
end Go.W
namespace Go.Proofs.Ytidjdonppfegiaa
open Go.W Go.Dp
theorem dipperC_ones : ∀ x : Dipper, ∀ v ∈ dipperC x, v.oneCell' = true := fun x v hv => by
  simp only [dipperC, List.mem_cons, List.mem_nil_iff, or_false] at hv
  rcases hv with rfl | rfl | rfl <;> rfl
theorem batherC_ones : ∀ x : Bather, ∀ v ∈ batherC x, v.oneCell' = true := fun x v hv => by
  simp only [batherC, List.mem_cons, List.mem_nil_iff, or_false] at hv
  rcases hv with rfl | rfl | rfl <;> rfl
theorem shlH {h : Int} (hh : 1 ≤ h ∧ h ≤ 4) : IntKind.i64.wrap (1 * 2 ^ (min h.toNat IntKind.i64.bits)) = ((2 ^ h.toNat : Nat) : Int) := by
  obtain ⟨k, rfl⟩ := Int.eq_ofNat_of_zero_le (show 0 ≤ h by omega)
  exact shlI k (by omega)
theorem orI_has {i : Int} (h0 : 0 ≤ i) (b : Nat) (h : Int) (hh : hasB i h = true) : hasB (orI i b) h = true := by
  obtain ⟨a, rfl⟩ := Int.eq_ofNat_of_zero_le h0
  unfold orI
  rw [hasB_nat] at hh ⊢
  rw [← Nat.testBit_eq_decide_div_mod_eq] at hh ⊢
  rw [Int.toNat_natCast]
  show (a ||| b).testBit _ = true
  rw [Nat.testBit_or, hh]; rfl
theorem orI_num {i : Int} (h0 : 0 ≤ i) (hi : i ≤ 15) {b : Nat} (hb : b < 16) : 0 ≤ orI i b ∧ orI i b ≤ 15 := by
  unfold orI
  have h1 : i.toNat < 2 ^ 4 := by omega
  have := Nat.or_lt_two_pow h1 (show b < 2 ^ 4 by omega)
  have h2 : Nat.lor i.toNat b < 16 := this
  omega
variable {d : Dips}
theorem gt_setQ {α : Type} [Inhabited α] (l : List α) (i j : Nat) (y : α) (hj : j < l.length) : gt (l.set i y) j = if i = j then y else gt l j := by
  unfold gt List.getD
  by_cases e : i = j
  · subst e; rw [if_pos rfl, List.getElem?_set_self hj]; rfl
  · rw [if_neg e, List.getElem?_set_ne e]
theorem bet_refl (d : Dips) : Bet d d := ⟨rfl, rfl, Nat.le_refl _, fun _ _ _ => Int.le_refl _, fun _ _ _ h => h, fun _ _ _ => Int.le_refl _, fun _ _ _ h => h⟩
theorem bet_app (d : Dips) (e : Dipper) : Bet d ⟨d.hours, d.dippers ++ [e], d.bathers⟩ := by
  have hg : ∀ i, i < d.dippers.length → gt (d.dippers ++ [e]) i = gt d.dippers i := fun i hi => by
    unfold gt List.getD; rw [List.getElem?_append_left hi]
  refine ⟨rfl, rfl, by simp, fun i hi best => ?_, fun i hi h hh => ?_, fun _ _ _ => Int.le_refl _, fun _ _ _ h => h⟩
  · rw [hg i hi]; exact Int.le_refl _
  · rw [hg i hi]; exact hh
theorem bet_dip (d : Dips) (i : Nat) (y : Dipper) (h1 : (gt d.dippers i).hands.lo ≤ y.hands.lo) (h2 : (gt d.dippers i).hands.hi ≤ y.hands.hi) (h3 : ∀ h, hasB (gt d.dippers i).hours h = true → hasB y.hours h = true) : Bet d ⟨d.hours, d.dippers.set i y, d.bathers⟩ := by
  refine ⟨rfl, rfl, by simp, fun j hj best => ?_, fun j hj h hh => ?_, fun _ _ _ => Int.le_refl _, fun _ _ _ h => h⟩
  · rw [gt_setQ _ _ _ _ hj]
    split
    · rename_i e; subst e; cases best <;> first | exact h1 | exact h2
    · exact Int.le_refl _
  · rw [gt_setQ _ _ _ _ hj]
    split
    · rename_i e; subst e; exact h3 h hh
    · exact hh
theorem bet_bath (d : Dips) (i : Nat) (y : Bather) (h1 : y.needs.lo ≤ (gt d.bathers i).needs.lo) (h2 : y.needs.hi ≤ (gt d.bathers i).needs.hi) (h3 : ∀ h, hasB (gt d.bathers i).hours h = true → hasB y.hours h = true) : Bet d ⟨d.hours, d.dippers, d.bathers.set i y⟩ := by
  refine ⟨rfl, by simp, Nat.le_refl _, fun _ _ _ => Int.le_refl _, fun _ _ _ h => h, fun j hj best => ?_, fun j hj h hh => ?_⟩
  · rw [gt_setQ _ _ _ _ hj]
    split
    · rename_i e; subst e; cases best <;> first | exact h1 | exact h2
    · exact Int.le_refl _
  · rw [gt_setQ _ _ _ _ hj]
    split
    · rename_i e; subst e; exact h3 h hh
    · exact hh
theorem flat_snoc {α : Type} (f : α → List Value) (l : List α) (x : α) : l.flatMap f ++ f x = (l ++ [x]).flatMap f := by
  rw [List.flatMap_append]; simp
theorem set_set {α : Type} (l : List α) (i : Nat) (a b : α) : (l.set i a).set i b = l.set i b := List.set_set ..
/-- a plan of d that is surely right is a plan of x -/
theorem bet_right {x : Dips} (h : Bet d x) (hv : dipsB d = true) (hx : dipsB x = true) (he : (PlanOut d).2 = 0) : RightR x (PlanOut d).1 = (2, 0) := by
  obtain ⟨q1, q2, q3⟩ := plan_ok hv he
  have hg := good_bet h ((good_fine q1 q2 false).1 q3)
  have hr := right_n hx hg.2.1 hg.1
  exact Prod.ext ((hr.2.1).2 ((good_fine hg.2.1 hg.1 false).2 hg)) hr.1
theorem bet_plan {x : Dips} (h : Bet d x) (hv : dipsB d = true) (hx : dipsB x = true) (he : (PlanOut d).2 = 0) : (PlanOut x).2 = 0 ∧ (PlanOut x).1.length = (PlanOut d).1.length := by
  rcases plan_n hv with ⟨_, l, h2, _⟩ | ⟨h1, _⟩
  · have hs := some_bet h hv hx (best := false) (by rw [h2]; rfl)
    rcases plan_n hx with ⟨g1, _⟩ | ⟨_, g2, _⟩
    · exact ⟨g1, by rw [(plan_ok hx g1).2.1, (plan_ok hv he).2.1, h.bl]⟩
    · rw [g2] at hs; cases hs
  · omega
theorem few_err {d : Dips} (hv : dipsB d = true) : (FewestOut d).2 = (PlanOut d).2 := by
  rcases few_n hv with ⟨h1, h2, _⟩ | ⟨h1, _, s, h2, _⟩
  · rw [h2, h1]
  · rw [h2, h1]
/-- of d and x, where x has more -/
theorem bet_few {x : Dips} (h : Bet d x) (hv : dipsB d = true) (hx : dipsB x = true) (he : (PlanOut d).2 = 0) : ∃ s t : Nat, FewestOut d = ((s : Int), 0) ∧ FewestOut x = ((t : Int), 0) ∧ s < 32 ∧ t < 32 ∧ pop t ≤ pop s := by
  have hx0 := (bet_plan h hv hx he).1
  rcases few_n hv with ⟨h1, _⟩ | ⟨_, _, s, h2, h3, h4, _⟩
  · omega
  rcases few_n hx with ⟨h1, _⟩ | ⟨_, _, t, g2, g3, g4, g5⟩
  · omega
  have e1 := sets_num (show d.dippers.length ≤ 5 by have := (dips_num hv).2.1; omega)
  have e2 := sets_num (show x.dippers.length ≤ 5 by have := (dips_num hx).2.1; omega)
  exact ⟨s, t, h2, g2, by omega, by omega, few_bet h hv hx h3 h4 g5⟩
theorem bet_most {x : Dips} (h : Bet d x) (hv : dipsB d = true) (hx : dipsB x = true) : (MostOut d).1 ≤ (MostOut x).1 := by
  obtain ⟨s, h1, h2⟩ := most_n hv
  obtain ⟨t, g1, g2⟩ := most_n hx
  rw [h2, g2]
  have := most_bet h hv hx h1 g1
  show ((pop s : Nat) : Int) ≤ ((pop t : Nat) : Int)
  omega
theorem most_one {d : Dips} (hv : dipsB d = true) {i : Nat} (hi : i < d.bathers.length) : (MostOut d).2.2 = 0 ∧ (MostOut (withB d (2 ^ d.bathers.length - 1 - 2 ^ i))).2.2 = 0 ∧ (MostOut (withB d (2 ^ d.bathers.length - 1 - 2 ^ i))).1 ≤ (MostOut d).1 ∧ (MostOut d).1 - 1 ≤ (MostOut (withB d (2 ^ d.bathers.length - 1 - 2 ^ i))).1 := by
  obtain ⟨s, h1, h2⟩ := most_n hv
  obtain ⟨t, g1, g2⟩ := most_n (withB_ok hv (2 ^ d.bathers.length - 1 - 2 ^ i))
  have := most_drop hv hi h1 g1
  rw [h2, g2]
  refine ⟨rfl, rfl, ?_, ?_⟩
  · show ((pop t : Nat) : Int) ≤ ((pop s : Nat) : Int); omega
  · show ((pop s : Nat) : Int) - 1 ≤ ((pop t : Nat) : Int); omega
theorem most_num {d : Dips} (hv : dipsB d = true) : (0 ≤ (MostOut d).1 ∧ (MostOut d).1 ≤ 5) ∧ (MostOut d).2.2 = 0 := by
  obtain ⟨s, h1, h2⟩ := most_n hv
  have := pop_le s
  rw [h2]; exact ⟨⟨Int.natCast_nonneg _, by show ((pop s : Nat) : Int) ≤ 5; omega⟩, rfl⟩
end Go.Proofs.Ytidjdonppfegiaa
/- What DipTurned says, in plain words: bathers, dippers and hours in the other order. -/
namespace Go.Proofs.Ytidjdonppfegiaa
open Go.W Go.Dp
structure Tur (d x : Dips) : Prop where
  hours : x.hours = d.hours
  dl : x.dippers.length = d.dippers.length
  bl : x.bathers.length = d.bathers.length
  hand : ∀ i, i < d.dippers.length → (gt x.dippers i).hands = (gt d.dippers (d.dippers.length - 1 - i)).hands
  dh : ∀ i, i < d.dippers.length → ∀ h, 0 ≤ h → h < d.hours → hasB (gt x.dippers i).hours h = hasB (gt d.dippers (d.dippers.length - 1 - i)).hours (d.hours - 1 - h)
  need : ∀ i, i < d.bathers.length → (gt x.bathers i).needs = (gt d.bathers (d.bathers.length - 1 - i)).needs
  bh : ∀ i, i < d.bathers.length → ∀ h, 0 ≤ h → h < d.hours → hasB (gt x.bathers i).hours h = hasB (gt d.bathers (d.bathers.length - 1 - i)).hours (d.hours - 1 - h)
theorem Tur.symm {d x : Dips} (h : Tur d x) : Tur x d := by
  refine ⟨h.hours.symm, h.dl.symm, h.bl.symm, fun i hi => ?_, fun i hi hr h0 h1 => ?_, fun i hi => ?_, fun i hi hr h0 h1 => ?_⟩
  · rw [h.dl] at hi ⊢
    rw [h.hand _ (by omega), show d.dippers.length - 1 - (d.dippers.length - 1 - i) = i by omega]
  · rw [h.dl] at hi ⊢
    rw [h.hours] at h1 ⊢
    rw [h.dh _ (by omega) _ (by omega) (by omega), show d.dippers.length - 1 - (d.dippers.length - 1 - i) = i by omega, show d.hours - 1 - (d.hours - 1 - hr) = hr by omega]
  · rw [h.bl] at hi ⊢
    rw [h.need _ (by omega), show d.bathers.length - 1 - (d.bathers.length - 1 - i) = i by omega]
  · rw [h.bl] at hi ⊢
    rw [h.hours] at h1 ⊢
    rw [h.bh _ (by omega) _ (by omega) (by omega), show d.bathers.length - 1 - (d.bathers.length - 1 - i) = i by omega, show d.hours - 1 - (d.hours - 1 - hr) = hr by omega]
/-! ### sums -/
def totI (w : Nat → Int) : Nat → Int
  | 0 => 0
  | k + 1 => totI w k + w k
theorem totI_congr {w v : Nat → Int} : ∀ n, (∀ k, k < n → w k = v k) → totI w n = totI v n := by
  intro n
  induction n with
  | zero => intro _; rfl
  | succ n ih => intro h; simp only [totI]; rw [ih (fun k hk => h k (by omega)), h n (by omega)]
theorem totI_front (w : Nat → Int) : ∀ n, totI w (n + 1) = w 0 + totI (fun k => w (k + 1)) n := by
  intro n
  induction n with
  | zero => simp [totI]
  | succ n ih =>
    have e1 : totI w (n + 1 + 1) = totI w (n + 1) + w (n + 1) := rfl
    have e2 : totI (fun k => w (k + 1)) (n + 1) = totI (fun k => w (k + 1)) n + w (n + 1) := rfl
    rw [e1, e2, ih]; omega
theorem totI_rev : ∀ (n : Nat) (w : Nat → Int), totI (fun k => w (n - 1 - k)) n = totI w n := by
  intro n
  induction n with
  | zero => intro w; rfl
  | succ n ih =>
    intro w
    rw [totI_front w n]
    have e1 : totI (fun k => w (n + 1 - 1 - k)) (n + 1) = totI (fun k => w (n + 1 - 1 - k)) n + w (n + 1 - 1 - n) := rfl
    rw [e1, show n + 1 - 1 - n = 0 by omega, ← ih (fun k => w (k + 1)), totI_congr n (w := fun k => w (n + 1 - 1 - k)) (v := fun k => w (n - 1 - k + 1)) (fun k hk => by show w (n + 1 - 1 - k) = w (n - 1 - k + 1); congr 1; omega)]
    omega
theorem totI_mono {w : Nat → Int} {n : Nat} (hw : ∀ k, k < n → 0 ≤ w k) : ∀ j, j ≤ n → ∀ i, i ≤ j → totI w i ≤ totI w j := by
  intro j
  induction j with
  | zero => intro _ i hi; have : i = 0 := by omega
            subst this; exact Int.le_refl _
  | succ j ih =>
    intro hj i hi
    by_cases e : i = j + 1
    · subst e; exact Int.le_refl _
    · have h1 := ih (by omega) i (by omega)
      have h2 := hw j (by omega)
      simp only [totI]; omega
theorem totI_last {w : Nat → Int} {S : Nat → Prop} (h0 : ∀ k, ¬ S k → w k = 0) : ∀ n, (∃ i, i < n ∧ S i) → ∃ j, j < n ∧ S j ∧ totI w (j + 1) = totI w n := by
  intro n
  induction n with
  | zero => rintro ⟨i, hi, _⟩; omega
  | succ n ih =>
    rintro ⟨i, hi, hs⟩
    rcases Classical.em (S n) with hn | hn
    · exact ⟨n, by omega, hn, rfl⟩
    · have hin : i ≠ n := fun e => by subst e; exact hn hs
      obtain ⟨j, h1, h2, h3⟩ := ih ⟨i, by omega, hs⟩
      refine ⟨j, by omega, h2, ?_⟩
      rw [h3]; simp only [totI]; rw [h0 n hn]; omega
/-! ### a plan of some -/
def wOf (d : Dips) (best : Bool) (c : Nat → Bool) (l : List Plc) (y : Plc) (k : Nat) : Int := if c k = true ∧ gt l k = y then need0 best (gt d.bathers k) else 0
def GoodF (d : Dips) (best : Bool) (c : Nat → Bool) (l : List Plc) : Prop := ∀ i, i < d.bathers.length → c i = true →
  (0 ≤ (gt l i).hour ∧ (gt l i).hour < d.hours ∧ 0 ≤ (gt l i).dipper ∧ (gt l i).dipper < d.dippers.length) ∧ hasB (gt d.bathers i).hours (gt l i).hour = true ∧ hasB (gt d.dippers (gt l i).dipper.toNat).hours (gt l i).hour = true ∧
  totI (wOf d best c l (gt l i)) d.bathers.length ≤ hands0 best (gt d.dippers (gt l i).dipper.toNat)
theorem wOf_num {d : Dips} (hv : dipsB d = true) (best : Bool) (c : Nat → Bool) (l : List Plc) (y : Plc) (k : Nat) (hk : k < d.bathers.length) : 0 ≤ wOf d best c l y k := by
  have := need_num hv best hk
  unfold wOf; split <;> omega
/-- up to each one is enough just if of all is -/
theorem goodF_to {d : Dips} (hv : dipsB d = true) (best : Bool) (c : Nat → Bool) (l : List Plc) : GoodF d best c l ↔ ∀ i, i < d.bathers.length → c i = true →
  (0 ≤ (gt l i).hour ∧ (gt l i).hour < d.hours ∧ 0 ≤ (gt l i).dipper ∧ (gt l i).dipper < d.dippers.length) ∧ hasB (gt d.bathers i).hours (gt l i).hour = true ∧ hasB (gt d.dippers (gt l i).dipper.toNat).hours (gt l i).hour = true ∧
  totI (wOf d best c l (gt l i)) (i + 1) ≤ hands0 best (gt d.dippers (gt l i).dipper.toNat) := by
  constructor
  · intro h i hi hc
    obtain ⟨h1, h2, h3, h4⟩ := h i hi hc
    exact ⟨h1, h2, h3, Int.le_trans (totI_mono (wOf_num hv best c l _) _ (Nat.le_refl _) _ (by omega)) h4⟩
  · intro h i hi hc
    obtain ⟨h1, h2, h3, _⟩ := h i hi hc
    refine ⟨h1, h2, h3, ?_⟩
    obtain ⟨j, j1, j2, j3⟩ := totI_last (w := wOf d best c l (gt l i)) (S := fun k => c k = true ∧ gt l k = gt l i) (fun k hk => if_neg hk) d.bathers.length ⟨i, hi, hc, rfl⟩
    rw [← j3]
    have := (h j j1 j2.1).2.2.2
    rw [j2.2] at this
    exact this
theorem leftR_tot (d : Dips) (best : Bool) (l : List Plc) (y : Plc) : ∀ k, leftR d l best y k = hands0 best (gt d.dippers y.dipper.toNat) - totI (wOf d best (fun _ => true) l y) k := by
  intro k
  induction k with
  | zero => simp [leftR, totI]
  | succ k ih => simp only [leftR, totI, wOf, true_and]; rw [ih]; omega
theorem leftS_tot (d : Dips) (s : Nat) (l : List Plc) (y : Plc) : ∀ k, leftS d s l y k = hands0 false (gt d.dippers y.dipper.toNat) - totI (wOf d false (bitB s) l y) k := by
  intro k
  induction k with
  | zero => simp [leftS, totI]
  | succ k ih => simp only [leftS, totI, wOf, bit_iff]; rw [ih]; omega
theorem good_F {d : Dips} (hv : dipsB d = true) (best : Bool) (l : List Plc) : Good d best l ↔ l.length = d.bathers.length ∧ GoodF d best (fun _ => true) l := by
  rw [goodF_to hv]
  constructor
  · rintro ⟨h1, h2, h3⟩
    refine ⟨h1, fun i hi _ => ?_⟩
    obtain ⟨g1, g2, g3⟩ := brokenR_zero.1 (h3 i (by omega))
    rw [leftR_tot] at g3
    exact ⟨h2 i (by omega), g1, g2, by omega⟩
  · rintro ⟨h1, h2⟩
    refine ⟨h1, fun i hi => (h2 i (by omega) rfl).1, fun i hi => ?_⟩
    obtain ⟨_, g1, g2, g3⟩ := h2 i (by omega) rfl
    refine brokenR_zero.2 ⟨g1, g2, ?_⟩
    rw [leftR_tot]; omega
theorem goodS_F {d : Dips} (hv : dipsB d = true) (s : Nat) (l : List Plc) : GoodS d s l ↔ GoodF d false (bitB s) l := by
  rw [goodF_to hv]
  constructor
  · intro h i hi hc
    obtain ⟨g0, g1, g2, g3⟩ := h i hi ((bit_iff s i).1 hc)
    rw [leftS_tot] at g3
    exact ⟨g0, g1, g2, by omega⟩
  · intro h i hi hc
    obtain ⟨g0, g1, g2, g3⟩ := h i hi ((bit_iff s i).2 hc)
    refine ⟨g0, g1, g2, ?_⟩
    rw [leftS_tot]; omega
/-! ### turned -/
def turnP (d : Dips) (y : Plc) : Plc := ⟨d.hours - 1 - y.hour, (d.dippers.length : Int) - 1 - y.dipper⟩
def turnL (d : Dips) (l : List Plc) : List Plc := (List.range d.bathers.length).map fun i => turnP d (gt l (d.bathers.length - 1 - i))
theorem turnL_len (d : Dips) (l : List Plc) : (turnL d l).length = d.bathers.length := by simp [turnL]
theorem turnL_at (d : Dips) (l : List Plc) {i : Nat} (h : i < d.bathers.length) : gt (turnL d l) i = turnP d (gt l (d.bathers.length - 1 - i)) := gt_rangeP _ _ _ h
theorem turnP_inj {d : Dips} {y z : Plc} : turnP d y = turnP d z ↔ y = z := by
  constructor
  · intro h
    unfold turnP at h
    have h1 := congrArg Plc.hour h
    have h2 := congrArg Plc.dipper h
    dsimp only at h1 h2
    cases y; cases z
    dsimp only at h1 h2
    rw [Plc.mk.injEq]; omega
  · rintro rfl; rfl
theorem goodF_tur {d x : Dips} (h : Tur d x) {best : Bool} {c : Nat → Bool} {l : List Plc} (hg : GoodF d best c l) : GoodF x best (fun k => c (d.bathers.length - 1 - k)) (turnL d l) := by
  intro i hi hc
  rw [h.bl] at hi
  obtain ⟨⟨a1, a2, a3, a4⟩, g1, g2, g3⟩ := hg (d.bathers.length - 1 - i) (by omega) hc
  rw [turnL_at d l hi]
  have hdp : ((d.dippers.length : Int) - 1 - (gt l (d.bathers.length - 1 - i)).dipper).toNat = d.dippers.length - 1 - (gt l (d.bathers.length - 1 - i)).dipper.toNat := by omega
  refine ⟨⟨?_, ?_, ?_, ?_⟩, ?_, ?_, ?_⟩
  · show 0 ≤ d.hours - 1 - _; omega
  · rw [h.hours]; show d.hours - 1 - _ < _; omega
  · show 0 ≤ (d.dippers.length : Int) - 1 - _; omega
  · rw [h.dl]; show (d.dippers.length : Int) - 1 - _ < _; omega
  · rw [h.bh i hi _ (by show 0 ≤ d.hours - 1 - _; omega) (by show d.hours - 1 - _ < _; omega)]
    show hasB _ (d.hours - 1 - (d.hours - 1 - _)) = true
    rw [show d.hours - 1 - (d.hours - 1 - (gt l (d.bathers.length - 1 - i)).hour) = (gt l (d.bathers.length - 1 - i)).hour by omega]
    exact g1
  · show hasB (gt x.dippers ((d.dippers.length : Int) - 1 - _).toNat).hours (d.hours - 1 - _) = true
    rw [hdp, h.dh _ (by omega) _ (by omega) (by omega)]
    rw [show d.hours - 1 - (d.hours - 1 - (gt l (d.bathers.length - 1 - i)).hour) = (gt l (d.bathers.length - 1 - i)).hour by omega, show d.dippers.length - 1 - (d.dippers.length - 1 - (gt l (d.bathers.length - 1 - i)).dipper.toNat) = (gt l (d.bathers.length - 1 - i)).dipper.toNat by omega]
    exact g2
  · show _ ≤ hands0 best (gt x.dippers ((d.dippers.length : Int) - 1 - _).toNat)
    rw [hdp]
    have e1 : hands0 best (gt x.dippers (d.dippers.length - 1 - (gt l (d.bathers.length - 1 - i)).dipper.toNat)) = hands0 best (gt d.dippers (gt l (d.bathers.length - 1 - i)).dipper.toNat) := by
      unfold hands0
      rw [h.hand _ (by omega), show d.dippers.length - 1 - (d.dippers.length - 1 - (gt l (d.bathers.length - 1 - i)).dipper.toNat) = (gt l (d.bathers.length - 1 - i)).dipper.toNat by omega]
    rw [e1, h.bl, ← totI_rev]
    refine Int.le_trans (Int.le_of_eq ?_) g3
    refine totI_congr _ fun k hk => ?_
    have hkk : d.bathers.length - 1 - (d.bathers.length - 1 - k) = k := by omega
    have e0 := turnL_at d l (show d.bathers.length - 1 - k < _ by omega)
    rw [hkk] at e0
    have e2 : need0 best (gt x.bathers (d.bathers.length - 1 - k)) = need0 best (gt d.bathers k) := by
      unfold need0
      rw [h.need _ (by omega), hkk]
    simp only [wOf, e0, hkk, turnP_inj, e2]
theorem good_tur {d x : Dips} (h : Tur d x) (hv : dipsB d = true) (hx : dipsB x = true) {best : Bool} {l : List Plc} (hg : Good d best l) : Good x best (turnL d l) :=
  (good_F hx best _).2 ⟨by rw [turnL_len, h.bl], goodF_tur h ((good_F hv best l).1 hg).2⟩
theorem turn_turn {d x : Dips} (h : Tur d x) {l : List Plc} (hl : l.length = d.bathers.length) : turnL x (turnL d l) = l := by
  refine same_iff.2 ⟨by rw [turnL_len, h.bl, hl], fun i hi => ?_⟩
  rw [turnL_len, h.bl] at hi
  rw [turnL_at x _ (by rw [h.bl]; exact hi), h.bl, turnL_at d l (by omega), show d.bathers.length - 1 - (d.bathers.length - 1 - i) = i by omega]
  unfold turnP
  rw [h.hours, h.dl]
  show (⟨d.hours - 1 - (d.hours - 1 - (gt l i).hour), (d.dippers.length : Int) - 1 - ((d.dippers.length : Int) - 1 - (gt l i).dipper)⟩ : Plc) = gt l i
  rw [show d.hours - 1 - (d.hours - 1 - (gt l i).hour) = (gt l i).hour by omega, show (d.dippers.length : Int) - 1 - ((d.dippers.length : Int) - 1 - (gt l i).dipper) = (gt l i).dipper by omega]
theorem turn_ok {d x : Dips} (h : Tur d x) {l : List Plc} (hl : l.length = d.bathers.length) (hq : PlOk d l) : PlOk x (turnL d l) := by
  intro j hj
  rw [turnL_len] at hj
  have := hq (d.bathers.length - 1 - j) (by omega)
  rw [turnL_at d l hj, h.hours, h.dl]
  unfold turnP
  dsimp only
  omega
theorem fine_tur {d x : Dips} (h : Tur d x) (hv : dipsB d = true) (hx : dipsB x = true) {l : List Plc} (hl : l.length = d.bathers.length) (hq : PlOk d l) (best : Bool) : fineR x (turnL d l) best = fineR d l best := by
  rw [Bool.eq_iff_iff, good_fine (turn_ok h hl hq) (by rw [turnL_len, h.bl]), good_fine hq hl]
  refine ⟨fun hg => ?_, fun hg => good_tur h hv hx hg⟩
  have := good_tur h.symm hx hv hg
  rwa [turn_turn h hl] at this
theorem right_tur {d x : Dips} (h : Tur d x) (hv : dipsB d = true) (hx : dipsB x = true) {l : List Plc} (hl : l.length = d.bathers.length) (hq : PlOk d l) : RightR x (turnL d l) = RightR d l ∧ (RightR d l).2 = 0 := by
  refine ⟨?_, (right_n hv hq hl).1⟩
  have c1 : checkR d (listB d l) = 0 := by rw [list_of hv hq hl]; simp [checkR, hv]
  have c2 : checkR x (listB x (turnL d l)) = 0 := by rw [list_of hx (turn_ok h hl hq) (by rw [turnL_len, h.bl])]; simp [checkR, hx]
  unfold RightR
  rw [c1, c2, fine_tur h hv hx hl hq, fine_tur h hv hx hl hq]
theorem some_tur {d x : Dips} (h : Tur d x) (hv : dipsB d = true) (hx : dipsB x = true) (best : Bool) : (planP x best).isSome = (planP d best).isSome := by
  rw [Bool.eq_iff_iff, planP_some hx, planP_some hv]
  exact ⟨fun ⟨l, hl⟩ => ⟨_, good_tur h.symm hx hv hl⟩, fun ⟨l, hl⟩ => ⟨_, good_tur h hv hx hl⟩⟩
theorem hope_tur {d x : Dips} (h : Tur d x) (hv : dipsB d = true) (hx : dipsB x = true) : HopeOut x = HopeOut d := by
  unfold HopeOut
  rw [hv, hx, some_tur h hv hx, some_tur h hv hx]
def revS (n s : Nat) : Nat := ((List.range n).map fun k => s / 2 ^ (n - 1 - k) % 2 * 2 ^ k).foldl (· + ·) 0
def revB : Bool := (List.range 6).all fun n => (List.range (2 ^ n)).all fun s => decide (revS n s < 2 ^ n) && (pop (revS n s) == pop s) && (List.range n).all fun k => bitB (revS n s) k == bitB s (n - 1 - k)
theorem rev_ok : revB = true := by kernel_rfl
theorem rev_facts {n s : Nat} (hn : n ≤ 5) (hs : s < 2 ^ n) : revS n s < 2 ^ n ∧ pop (revS n s) = pop s ∧ ∀ k, k < n → bitB (revS n s) k = bitB s (n - 1 - k) := by
  have h := List.all_eq_true.1 (List.all_eq_true.1 rev_ok n (List.mem_range.2 (by omega))) s (List.mem_range.2 hs)
  simp only [Bool.and_eq_true, decide_eq_true_eq, beq_iff_eq] at h
  exact ⟨h.1.1, h.1.2, fun k hk => by have h9 := List.all_eq_true.1 h.2 k (List.mem_range.2 hk); simpa using h9⟩
theorem goodF_congr {d : Dips} {best : Bool} {c c' : Nat → Bool} {l : List Plc} (hcc : ∀ k, k < d.bathers.length → c k = c' k) (h : GoodF d best c l) : GoodF d best c' l := by
  intro i hi hc
  obtain ⟨h1, h2, h3, h4⟩ := h i hi (by rw [hcc i hi]; exact hc)
  refine ⟨h1, h2, h3, Int.le_trans (Int.le_of_eq (totI_congr _ fun k hk => ?_)) h4⟩
  unfold wOf; rw [hcc k hk]
theorem canW_tur {d x : Dips} (h : Tur d x) (hv : dipsB d = true) (hx : dipsB x = true) {s : Nat} (hs : s < 2 ^ d.bathers.length) (hc : canW d s = true) : canW x (revS d.bathers.length s) = true := by
  obtain ⟨_, _, f3⟩ := rev_facts (dips_num hv).2.2.1 hs
  obtain ⟨l, hl⟩ := (canW_iff hv s).1 hc
  refine (canW_iff hx _).2 ⟨turnL d l, (goodS_F hx _ _).2 (goodF_congr (fun k hk => ?_) (goodF_tur h ((goodS_F hv s l).1 hl)))⟩
  rw [h.bl] at hk
  exact (f3 k hk).symm
theorem most_le {d x : Dips} (h : Tur d x) (hv : dipsB d = true) (hx : dipsB x = true) {s t : Nat} (hs : MostC d s) (ht : MostC x t) : pop s ≤ pop t := by
  obtain ⟨f1, f2, _⟩ := rev_facts (dips_num hv).2.2.1 hs.2.1
  have := (ht.2.2 _ (by rw [h.bl]; exact f1) (canW_tur h hv hx hs.2.1 hs.1)).1
  omega
theorem most_tur {d x : Dips} (h : Tur d x) (hv : dipsB d = true) (hx : dipsB x = true) : (MostOut x).1 = (MostOut d).1 ∧ (MostOut x).2.2 = (MostOut d).2.2 := by
  obtain ⟨s, h1, h2⟩ := most_n hv
  obtain ⟨t, g1, g2⟩ := most_n hx
  have e1 := most_le h hv hx h1 g1
  have e2 := most_le h.symm hx hv g1 h1
  rw [h2, g2, show pop t = pop s by omega]
  exact ⟨rfl, rfl⟩
theorem canW_turF {d x : Dips} (h : Tur d x) (hv : dipsB d = true) (hx : dipsB x = true) {s : Nat} (hs : s < 2 ^ d.bathers.length) (hc : canW d s = false) : canW x (revS d.bathers.length s) = false := by
  cases hcx : canW x (revS d.bathers.length s) with
  | false => rfl
  | true =>
    have h5 := (dips_num hv).2.2.1
    obtain ⟨f1, f2, f3⟩ := rev_facts h5 hs
    have h1 := canW_tur h.symm hx hv (by rw [h.bl]; exact f1) hcx
    rw [h.bl] at h1
    obtain ⟨g1, g2, g3⟩ := rev_facts h5 f1
    have : canW d s = true := canW_sub hv (s := revS d.bathers.length (revS d.bathers.length s)) (fun k hk hb => by
      refine (bit_iff _ _).1 ?_
      rw [g3 k hk, f3 _ (by omega), show d.bathers.length - 1 - (d.bathers.length - 1 - k) = k by omega]
      exact (bit_iff _ _).2 hb) h1
    rw [hc] at this; cases this
theorem why_tur {d x : Dips} (h : Tur d x) (hv : dipsB d = true) (hx : dipsB x = true) : ∃ (s t : Nat) (e : Int), WhyOut d = ((s : Int), e) ∧ WhyOut x = ((t : Int), e) ∧ s < 32 ∧ t < 32 ∧ pop s = pop t := by
  have e1 := sets_num (dips_num hv).2.2.1
  have e2 := sets_num (dips_num hx).2.2.1
  have full : ∀ d x : Dips, Tur d x → dipsB d = true → dipsB x = true → (∀ t, canW d t = true) → canW x (2 ^ x.bathers.length - 1) = true := fun d x h hv hx hall => by
    cases hc : canW x (2 ^ x.bathers.length - 1) with
    | true => rfl
    | false =>
      have hp : 0 < 2 ^ x.bathers.length := Nat.pow_pos (by omega)
      have := canW_turF h.symm hx hv (s := 2 ^ x.bathers.length - 1) (by omega) hc
      rw [hall] at this; cases this
  rcases why_n hv with ⟨h1, h2⟩ | ⟨s, h1, h2, h3, h4, h5⟩
  · rcases why_n hx with ⟨g1, g2⟩ | ⟨t, g1, g2, g3, g4, g5⟩
    · exact ⟨0, 0, 4, h1, g1, by omega, by omega, rfl⟩
    · rw [full d x h hv hx h2] at g5; cases g5
  · rcases why_n hx with ⟨g1, g2⟩ | ⟨t, g1, g2, g3, g4, g5⟩
    · rw [full x d h.symm hx hv g2] at h5; cases h5
    · refine ⟨s, t, 0, h1, g1, by omega, by omega, ?_⟩
      obtain ⟨f1, f2, _⟩ := rev_facts (dips_num hv).2.2.1 h3
      obtain ⟨k1, k2, _⟩ := rev_facts (dips_num hx).2.2.1 g3
      have b1 := g4 _ (by rw [h.bl]; exact f1) (canW_turF h hv hx h3 h2)
      have b2 := h4 _ (by rw [← h.bl]; exact k1) (canW_turF h.symm hx hv g3 g2)
      unfold bef at b1 b2
      omega
theorem bitB_of {s k : Nat} : (s / 2 ^ k % 2 = 1) = (bitB s k = true) := by simp [bitB]
theorem byCan_tur {d x : Dips} (h : Tur d x) (hv : dipsB d = true) (hx : dipsB x = true) {s : Nat} (hs : s < 2 ^ d.dippers.length) (hc : byCan d s = true) : byCan x (revS d.dippers.length s) = true := by
  have h3 := (dips_num hv).2.1
  obtain ⟨_, _, f3⟩ := rev_facts (show d.dippers.length ≤ 5 by omega) hs
  obtain ⟨l, hl, hsub⟩ := (byCan_iff hv s).1 hc
  have hgx := good_tur h hv hx hl
  refine (byCan_iff hx _).2 ⟨turnL d l, hgx, fun j hj hb => ?_⟩
  obtain ⟨i, hi, e⟩ := ((used_bit (good_dip3 hx hgx)).2 j hj).1 hb
  rw [turnL_len] at hi
  have hq := hl.2.1 (d.bathers.length - 1 - i) (by rw [hl.1]; omega)
  rw [turnL_at d l hi] at e
  have e' : ((d.dippers.length : Int) - 1 - (gt l (d.bathers.length - 1 - i)).dipper).toNat = j := e
  rw [bitB_of, f3 j (by omega), ← bitB_of]
  refine hsub _ (by omega) (((used_bit (good_dip3 hv hl)).2 _ (by omega)).2 ⟨d.bathers.length - 1 - i, by rw [hl.1]; omega, by omega⟩)
theorem few_tur {d x : Dips} (h : Tur d x) (hv : dipsB d = true) (hx : dipsB x = true) : ∃ (s t : Nat) (e : Int), FewestOut d = ((s : Int), e) ∧ FewestOut x = ((t : Int), e) ∧ s < 32 ∧ t < 32 ∧ pop s = pop t := by
  have n1 := (dips_num hv).2.1
  have n2 := (dips_num hx).2.1
  have e1 := sets_num (show d.dippers.length ≤ 5 by omega)
  have e2 := sets_num (show x.dippers.length ≤ 5 by omega)
  have hs := some_tur h hv hx false
  rcases few_n hv with ⟨_, h1, _, h2⟩ | ⟨_, h2, s, h3, h4, h5, h6⟩
  · rcases few_n hx with ⟨_, g1, _, g2⟩ | ⟨_, g2, _⟩
    · exact ⟨0, 0, 4, h1, g1, by omega, by omega, rfl⟩
    · rw [g2, h2] at hs; cases hs
  · rcases few_n hx with ⟨_, g1, _, g2⟩ | ⟨_, g2, t, g3, g4, g5, g6⟩
    · rw [g2, h2] at hs; cases hs
    · refine ⟨s, t, 0, h3, g3, by omega, by omega, ?_⟩
      obtain ⟨f1, f2, _⟩ := rev_facts (show d.dippers.length ≤ 5 by omega) h5
      obtain ⟨k1, k2, _⟩ := rev_facts (show x.dippers.length ≤ 5 by omega) g5
      have b1 := g6 _ (by rw [h.dl]; exact f1) (byCan_tur h hv hx h5 h4)
      have b2 := h6 _ (by rw [← h.dl]; exact k1) (byCan_tur h.symm hx hv g5 g4)
      unfold bef at b1 b2
      omega
/-! ### hours in the other order -/
def othTo (H s : Nat) : Nat → Nat
  | 0 => 0
  | k + 1 => Nat.lor (othTo H s k) (s / 2 ^ k % 2 * 2 ^ (H - 1 - k))
def othB : Bool := (List.range 5).all fun H => (List.range (2 ^ H)).all fun s => ((List.range (H + 1)).all fun k => decide (othTo H s k < 16)) && decide (othTo H s H < 2 ^ H) && (List.range H).all fun h => bitB (othTo H s H) h == bitB s (H - 1 - h)
theorem oth_ok : othB = true := by kernel_rfl
theorem oth_facts {H s : Nat} (hH : H ≤ 4) (hs : s < 2 ^ H) : (∀ k, k ≤ H → othTo H s k < 16) ∧ othTo H s H < 2 ^ H ∧ ∀ h, h < H → bitB (othTo H s H) h = bitB s (H - 1 - h) := by
  have h := List.all_eq_true.1 (List.all_eq_true.1 oth_ok H (List.mem_range.2 (by omega))) s (List.mem_range.2 hs)
  simp only [Bool.and_eq_true, decide_eq_true_eq] at h
  exact ⟨fun k hk => by have h9 := List.all_eq_true.1 h.1.1 k (List.mem_range.2 (by omega)); simpa using h9, h.1.2, fun k hk => by have h9 := List.all_eq_true.1 h.2 k (List.mem_range.2 hk); simpa using h9⟩
def othI (d : Dips) (s : Int) : Int := ((othTo d.hours.toNat s.toNat d.hours.toNat : Nat) : Int)
theorem othI_num {d : Dips} (hh : 1 ≤ d.hours ∧ d.hours ≤ 4) {s : Int} (hs : setB d.hours s = true) : setB d.hours (othI d s) = true ∧ ∀ h, 0 ≤ h → h < d.hours → hasB (othI d s) h = hasB s (d.hours - 1 - h) := by
  have hs' : 0 ≤ s ∧ s ≤ ((2 ^ d.hours.toNat : Nat) : Int) - 1 := by simpa [setB, inB] using hs
  obtain ⟨n, rfl⟩ := Int.eq_ofNat_of_zero_le hs'.1
  obtain ⟨_, f2, f3⟩ := oth_facts (H := d.hours.toNat) (s := n) (by omega) (by omega)
  unfold othI
  rw [Int.toNat_natCast]
  refine ⟨?_, fun h h0 h1 => ?_⟩
  · simp only [setB, inB, decide_eq_true_eq]; omega
  · obtain ⟨k, rfl⟩ := Int.eq_ofNat_of_zero_le h0
    have h3 := f3 k (by omega)
    rw [hasB_nat, hasB_nat, Int.toNat_natCast, show (d.hours - 1 - (k : Int)).toNat = d.hours.toNat - 1 - k by omega]
    simpa [bitB, BEq.beq] using h3
def tDip (d : Dips) (k : Nat) : List Dipper := (List.range k).map fun i => ⟨(gt d.dippers (d.dippers.length - 1 - i)).hands, othI d (gt d.dippers (d.dippers.length - 1 - i)).hours⟩
def tBath (d : Dips) (k : Nat) : List Bather := (List.range k).map fun i => ⟨(gt d.bathers (d.bathers.length - 1 - i)).needs, othI d (gt d.bathers (d.bathers.length - 1 - i)).hours⟩
def turnD (d : Dips) : Dips := ⟨d.hours, tDip d d.dippers.length, tBath d d.bathers.length⟩
theorem tDip_len (d : Dips) (k : Nat) : (tDip d k).length = k := by simp [tDip]
theorem tBath_len (d : Dips) (k : Nat) : (tBath d k).length = k := by simp [tBath]
theorem tDip_succ (d : Dips) (k : Nat) : (tDip d (k + 1)).flatMap dipperC = (tDip d k).flatMap dipperC ++ [it (gt d.dippers (d.dippers.length - 1 - k)).hands.lo, it (gt d.dippers (d.dippers.length - 1 - k)).hands.hi, it (othI d (gt d.dippers (d.dippers.length - 1 - k)).hours)] := by
  simp [tDip, List.range_succ, List.flatMap_append, dipperC]
theorem tBath_succ (d : Dips) (k : Nat) : (tBath d (k + 1)).flatMap batherC = (tBath d k).flatMap batherC ++ [it (gt d.bathers (d.bathers.length - 1 - k)).needs.lo, it (gt d.bathers (d.bathers.length - 1 - k)).needs.hi, it (othI d (gt d.bathers (d.bathers.length - 1 - k)).hours)] := by
  simp [tBath, List.range_succ, List.flatMap_append, batherC]
theorem turnD_ok {d : Dips} (hv : dipsB d = true) : Tur d (turnD d) ∧ dipsB (turnD d) = true := by
  obtain ⟨h1, h2, h3, h4, h5⟩ := (dipsB_iff d).1 hv
  have hh : 1 ≤ d.hours ∧ d.hours ≤ 4 := by simpa [inB] using h1
  have g4 : ∀ i, i < d.dippers.length → spanB (gt d.dippers i).hands 0 8 = true ∧ setB d.hours (gt d.dippers i).hours = true := fun i hi => by have := h4 i hi; simpa [dipperB] using this
  have g5 : ∀ i, i < d.bathers.length → spanB (gt d.bathers i).needs 1 4 = true ∧ setB d.hours (gt d.bathers i).hours = true := fun i hi => by have := h5 i hi; simpa [batherB] using this
  have e1 : ∀ i, i < d.dippers.length → gt (turnD d).dippers i = ⟨(gt d.dippers (d.dippers.length - 1 - i)).hands, othI d (gt d.dippers (d.dippers.length - 1 - i)).hours⟩ := fun i hi => gt_rangeP _ _ _ hi
  have e2 : ∀ i, i < d.bathers.length → gt (turnD d).bathers i = ⟨(gt d.bathers (d.bathers.length - 1 - i)).needs, othI d (gt d.bathers (d.bathers.length - 1 - i)).hours⟩ := fun i hi => gt_rangeP _ _ _ hi
  have l1 : (turnD d).dippers.length = d.dippers.length := tDip_len _ _
  have l2 : (turnD d).bathers.length = d.bathers.length := tBath_len _ _
  refine ⟨⟨rfl, l1, l2, fun i hi => by rw [e1 i hi], fun i hi => by rw [e1 i hi]; exact (othI_num hh (g4 _ (by omega)).2).2, fun i hi => by rw [e2 i hi], fun i hi => by rw [e2 i hi]; exact (othI_num hh (g5 _ (by omega)).2).2⟩, (dipsB_iff _).2 ⟨h1, by rw [l1]; exact h2, by rw [l2]; exact h3, fun i hi => ?_, fun i hi => ?_⟩⟩
  · rw [l1] at hi
    rw [e1 i hi]
    have := g4 (d.dippers.length - 1 - i) (by omega)
    simp only [dipperB, Bool.and_eq_true]
    exact ⟨this.1, (othI_num hh this.2).1⟩
  · rw [l2] at hi
    rw [e2 i hi]
    have := g5 (d.bathers.length - 1 - i) (by omega)
    simp only [batherB, Bool.and_eq_true]
    exact ⟨this.1, (othI_num hh this.2).1⟩
/-! ### a plan that is turned in place -/
theorem zeroL_two : ∀ n, zeroL [it 0, it 0] (n * 2) = (List.replicate n (⟨0, 0⟩ : Plc)).flatMap placeC := by
  intro n
  induction n with
  | zero => rfl
  | succ n ih =>
    rw [show (n + 1) * 2 = n * 2 + 1 + 1 by omega]
    simp only [zeroL]
    rw [ih, List.replicate_succ', List.flatMap_append]
    have e1 : n * 2 % [it 0, it 0].length = 0 := by show n * 2 % 2 = 0; omega
    have e2 : (n * 2 + 1) % [it 0, it 0].length = 1 := by show (n * 2 + 1) % 2 = 1; omega
    rw [e1, e2]
    simp [placeC]
/-- back, when the first k are written -/
def backL (d : Dips) (l : List Plc) (k : Nat) : List Plc := (List.range d.bathers.length).map fun i => if d.bathers.length - 1 - i < k then turnP d (gt l (d.bathers.length - 1 - i)) else ⟨0, 0⟩
theorem backL_len (d : Dips) (l : List Plc) (k : Nat) : (backL d l k).length = d.bathers.length := by simp [backL]
theorem backL_zero (d : Dips) (l : List Plc) : (backL d l 0).flatMap placeC = zeroL [it 0, it 0] (d.bathers.length * 2) := by
  have e : backL d l 0 = (List.range d.bathers.length).map fun _ => (⟨0, 0⟩ : Plc) := by
    unfold backL
    refine List.map_congr_left fun i hi => ?_
    rw [if_neg (by omega)]
  rw [e, zeroL_two]
  congr 1
  generalize d.bathers.length = n
  apply List.ext_getElem (by simp)
  intro i h1 h2
  simp
theorem backL_step (d : Dips) (l : List Plc) {k : Nat} (hk : k < d.bathers.length) : (backL d l k).set (d.bathers.length - 1 - k) (turnP d (gt l k)) = backL d l (k + 1) := by
  refine same_iff.2 ⟨by rw [List.length_set, backL_len, backL_len], fun i hi => ?_⟩
  rw [List.length_set, backL_len] at hi
  rw [gt_setQ _ _ _ _ (by rw [backL_len]; exact hi)]
  have e1 : gt (backL d l (k + 1)) i = if d.bathers.length - 1 - i < k + 1 then turnP d (gt l (d.bathers.length - 1 - i)) else ⟨0, 0⟩ := gt_rangeP _ _ _ hi
  have e2 : gt (backL d l k) i = if d.bathers.length - 1 - i < k then turnP d (gt l (d.bathers.length - 1 - i)) else ⟨0, 0⟩ := gt_rangeP _ _ _ hi
  rw [e1, e2]
  by_cases c : d.bathers.length - 1 - k = i
  · rw [if_pos c, if_pos (by omega), show d.bathers.length - 1 - i = k by omega]
  · rw [if_neg c]
    by_cases c2 : d.bathers.length - 1 - i < k
    · rw [if_pos c2, if_pos (by omega)]
    · rw [if_neg c2, if_neg (by omega)]
theorem backL_all (d : Dips) (l : List Plc) : backL d l d.bathers.length = turnL d l := by
  unfold backL turnL
  refine List.map_congr_left fun i hi => ?_
  have := List.mem_range.1 hi
  rw [if_pos (by omega)]
end Go.Proofs.Ytidjdonppfegiaa
