import Derived.Test.YtkhmmefgllbobaaXV
import Derived.Test.YtkhmmefgllbobaaRows
set_option linter.unusedSimpArgs false
set_option linter.unusedVariables false
set_option linter.all false
/- Plain words on posts: bounds on how far two are apart, closed step by step; that they tell just what the truths tell. No program in sight. -/
namespace Go.Po
open Go.W (gt gt_of)
structure Sp where
  lo : Int
  hi : Int
  deriving DecidableEq, Inhabited
structure Bath where
  lady : Bool
  place : Sp
  deriving DecidableEq, Inhabited
structure PClaim where
  a : Int
  b : Int
  not : Bool
  deriving DecidableEq, Inhabited
structure Post where
  post : Sp
  bathers : List Bath
  claims : List PClaim
  deriving Inhabited
/-- a rule of two: the place of 'to' is greater than that of 'fr', or no less -/
structure Rule where
  bef : Bool
  fr : Int
  to : Int
  deriving DecidableEq, Inhabited
/-- the beginning of the beach is 0, the post 1, bathers are from 2 on -/
def ix (w : Int) : Nat := (w + 2).toNat
abbrev FM := Nat → Nat → Option Int
def put (F : FM) (i j : Nat) (v : Int) : FM := fun a b => if a = i ∧ b = j then some v else F a b
def setN (F : FM) (i j : Nat) (v : Int) : FM := match F i j with
  | some o => if v < o then put F i j v else F
  | none => put F i j v
def placeN (p : Post) : Nat → Sp
  | 0 => ⟨0, 0⟩
  | 1 => p.post
  | i + 2 => (gt p.bathers i).place
def initN (p : Post) : Nat → FM
  | 0 => fun _ _ => none
  | k + 1 => setN (setN (setN (initN p k) 0 k (placeN p k).hi) k 0 (-(placeN p k).lo)) k k 0
def putR (F : FM) (r : Rule) : FM := if r.bef then setN (setN F (ix r.to) (ix r.fr) 0) (ix r.to) (ix r.fr) (-1) else setN F (ix r.to) (ix r.fr) 0
def rulesTo (F : FM) (l : List Rule) : Nat → FM
  | 0 => F
  | k + 1 => putR (rulesTo F l k) (gt l k)
def innerTo (F : FM) (y f : Nat) (first : Int) : Nat → FM
  | 0 => F
  | k + 1 => match innerTo F y f first k y k with
    | some s => setN (innerTo F y f first k) f k (first + s)
    | none => innerTo F y f first k
def midTo (n : Nat) (F : FM) (y : Nat) : Nat → FM
  | 0 => F
  | k + 1 => match midTo n F y k k y with
    | some s => innerTo (midTo n F y k) y k s n
    | none => midTo n F y k
def outTo (n : Nat) (F : FM) : Nat → FM
  | 0 => F
  | k + 1 => midTo n (outTo n F k) k n
def nodes (p : Post) : Nat := p.bathers.length + 2
def farOf (p : Post) (l : List Rule) : FM := outTo (nodes p) (rulesTo (initN p (nodes p)) l l.length) (nodes p)
/-- no way around is below 0 -/
def okTo (F : FM) : Nat → Bool
  | 0 => true
  | k + 1 => okTo F k && decide (0 ≤ (F k k).getD 0)
def farOk (p : Post) (l : List Rule) : Bool := okTo (farOf p l) (nodes p)

/-! ### what a truth says -/
def RuleOk (x : Nat → Int) (r : Rule) : Prop := if r.bef then x (ix r.fr) < x (ix r.to) else x (ix r.fr) ≤ x (ix r.to)
structure Sol (p : Post) (l : List Rule) (x : Nat → Int) : Prop where
  zero : x 0 = 0
  place : ∀ i, i < nodes p → (placeN p i).lo ≤ x i ∧ x i ≤ (placeN p i).hi
  rule : ∀ i, i < l.length → RuleOk x (gt l i)
/-- all bounds hold -/
def Fits (F : FM) (x : Nat → Int) : Prop := ∀ i j v, F i j = some v → x j - x i ≤ v

theorem put_get (F : FM) (i j : Nat) (v : Int) (a b : Nat) : put F i j v a b = if a = i ∧ b = j then some v else F a b := rfl
theorem setN_at (F : FM) (i j : Nat) (v : Int) : ∃ u, setN F i j v i j = some u ∧ u ≤ v ∧ (∀ o, F i j = some o → u ≤ o) := by
  unfold setN
  cases h : F i j with
  | none => exact ⟨v, by simp [put], Int.le_refl _, fun o ho => by cases ho⟩
  | some o =>
    dsimp only
    split
    · exact ⟨v, by simp [put], Int.le_refl _, fun o' ho => by cases ho; omega⟩
    · exact ⟨o, h, by omega, fun o' ho => by cases ho; exact Int.le_refl _⟩
theorem setN_ne (F : FM) (i j : Nat) (v : Int) (a b : Nat) (h : ¬ (a = i ∧ b = j)) : setN F i j v a b = F a b := by
  unfold setN
  cases hF : F i j with
  | none => dsimp only; rw [put_get, if_neg h]
  | some o =>
    dsimp only
    split
    · rw [put_get, if_neg h]
    · rfl
/-- bounds only get sharper -/
structure Le (F G : FM) : Prop where
  le : ∀ i j v, F i j = some v → ∃ u, G i j = some u ∧ u ≤ v
theorem Le.refl (F : FM) : Le F F := ⟨fun _ _ v h => ⟨v, h, Int.le_refl _⟩⟩
theorem Le.trans {F G H : FM} (h : Le F G) (k : Le G H) : Le F H := ⟨fun i j v hv => by
  obtain ⟨u, hu, h1⟩ := h.le i j v hv
  obtain ⟨t, ht, h2⟩ := k.le i j u hu
  exact ⟨t, ht, by omega⟩⟩
theorem Le.setN (F : FM) (i j : Nat) (v : Int) : Le F (setN F i j v) := ⟨fun a b o ho => by
  by_cases h : a = i ∧ b = j
  · obtain ⟨rfl, rfl⟩ := h
    obtain ⟨u, h1, _, h3⟩ := setN_at F a b v
    exact ⟨u, h1, h3 o ho⟩
  · exact ⟨o, by rw [setN_ne F i j v a b h]; exact ho, Int.le_refl _⟩⟩
theorem Le.inner (F : FM) (y f : Nat) (first : Int) : ∀ k, Le F (innerTo F y f first k) := by
  intro k
  induction k with
  | zero => exact Le.refl F
  | succ k ih =>
    simp only [innerTo]
    split
    · exact ih.trans (Le.setN ..)
    · exact ih
theorem Le.mid (n : Nat) (F : FM) (y : Nat) : ∀ k, Le F (midTo n F y k) := by
  intro k
  induction k with
  | zero => exact Le.refl F
  | succ k ih =>
    simp only [midTo]
    split
    · exact ih.trans (Le.inner ..)
    · exact ih
theorem Le.out (n : Nat) (F : FM) : ∀ k, Le F (outTo n F k) := by
  intro k
  induction k with
  | zero => exact Le.refl F
  | succ k ih => exact ih.trans (Le.mid ..)
theorem Le.rules (F : FM) (l : List Rule) : ∀ k, Le F (rulesTo F l k) := by
  intro k
  induction k with
  | zero => exact Le.refl F
  | succ k ih =>
    simp only [rulesTo, putR]
    split
    · exact (ih.trans (Le.setN ..)).trans (Le.setN ..)
    · exact ih.trans (Le.setN ..)
theorem Le.init (p : Post) (k : Nat) : ∀ m, Le (initN p k) (initN p (k + m)) := by
  intro m
  induction m with
  | zero => exact Le.refl _
  | succ m ih => exact ih.trans (((Le.setN ..).trans (Le.setN ..)).trans (Le.setN ..))
theorem fits_le {F G : FM} {x : Nat → Int} (h : Le F G) (hG : Fits G x) : Fits F x := fun i j v hv => by
  obtain ⟨u, hu, h1⟩ := h.le i j v hv
  have := hG i j u hu
  omega
theorem fits_set {F : FM} {x : Nat → Int} (h : Fits F x) {i j : Nat} {v : Int} (hv : x j - x i ≤ v) : Fits (setN F i j v) x := fun a b u hu => by
  by_cases e : a = i ∧ b = j
  · obtain ⟨rfl, rfl⟩ := e
    unfold setN at hu
    cases hF : F a b with
    | none => rw [hF] at hu; simp [put] at hu; omega
    | some o =>
      rw [hF] at hu
      dsimp only at hu
      split at hu
      · simp [put] at hu; omega
      · exact h a b u hu
  · rw [setN_ne F i j v a b e] at hu; exact h a b u hu
theorem fits_inner {F : FM} {x : Nat → Int} (h : Fits F x) {y f : Nat} {first : Int} (hf : x y - x f ≤ first) : ∀ k, Fits (innerTo F y f first k) x := by
  intro k
  induction k with
  | zero => exact h
  | succ k ih =>
    simp only [innerTo]
    split
    · rename_i s hs
      have := ih y k s hs
      exact fits_set ih (by omega)
    · exact ih
theorem fits_mid {n : Nat} {F : FM} {x : Nat → Int} (h : Fits F x) {y : Nat} : ∀ k, Fits (midTo n F y k) x := by
  intro k
  induction k with
  | zero => exact h
  | succ k ih =>
    simp only [midTo]
    split
    · rename_i s hs
      exact fits_inner ih (ih k y s hs) n
    · exact ih
theorem fits_out {n : Nat} {F : FM} {x : Nat → Int} (h : Fits F x) : ∀ k, Fits (outTo n F k) x := by
  intro k
  induction k with
  | zero => exact h
  | succ k ih => exact fits_mid ih n
theorem fits_rules {F : FM} {x : Nat → Int} {l : List Rule} (h : Fits F x) : ∀ k, (∀ i, i < k → RuleOk x (gt l i)) → Fits (rulesTo F l k) x := by
  intro k
  induction k with
  | zero => intro _; exact h
  | succ k ih =>
    intro hr
    have h1 := ih fun i hi => hr i (by omega)
    have h2 := hr k (by omega)
    unfold RuleOk at h2
    simp only [rulesTo, putR]
    cases hb : (gt l k).bef with
    | true =>
      rw [hb, if_pos rfl] at h2
      rw [if_pos rfl]
      exact fits_set (fits_set h1 (by omega)) (by omega)
    | false =>
      rw [hb, if_neg (by simp)] at h2
      rw [if_neg (by simp)]
      exact fits_set h1 (by omega)
theorem fits_init {p : Post} {x : Nat → Int} (h0 : x 0 = 0) : ∀ k, (∀ i, i < k → (placeN p i).lo ≤ x i ∧ x i ≤ (placeN p i).hi) → Fits (initN p k) x := by
  intro k
  induction k with
  | zero => intro _ i j v hv; cases hv
  | succ k ih =>
    intro hp
    have h1 := ih fun i hi => hp i (by omega)
    have h2 := hp k (by omega)
    exact fits_set (fits_set (fits_set h1 (by omega)) (by omega)) (by omega)
/-- a truth keeps all bounds -/
theorem sol_fits {p : Post} {l : List Rule} {x : Nat → Int} (h : Sol p l x) : Fits (farOf p l) x :=
  fits_out (fits_rules (fits_init h.zero _ h.place) _ h.rule) _
/-- what the bounds ask at least: places and rules -/
theorem rules_fit {F : FM} {x : Nat → Int} {l : List Rule} : ∀ k, Fits (rulesTo F l k) x → ∀ i, i < k → RuleOk x (gt l i) := by
  intro k
  induction k with
  | zero => intro _ i hi; omega
  | succ k ih =>
    intro h i hi
    have hle : Le (rulesTo F l k) (rulesTo F l (k + 1)) := by
      simp only [rulesTo, putR]
      split
      · exact (Le.setN ..).trans (Le.setN ..)
      · exact Le.setN ..
    by_cases e : i = k
    · subst e
      unfold RuleOk
      simp only [rulesTo, putR] at h
      cases hb : (gt l i).bef with
      | true =>
        rw [hb, if_pos rfl] at h
        obtain ⟨u, h1, h2, _⟩ := setN_at (setN (rulesTo F l i) (ix (gt l i).to) (ix (gt l i).fr) 0) (ix (gt l i).to) (ix (gt l i).fr) (-1)
        have := h _ _ u h1
        rw [if_pos rfl]; omega
      | false =>
        rw [hb, if_neg (by simp)] at h
        obtain ⟨u, h1, h2, _⟩ := setN_at (rulesTo F l i) (ix (gt l i).to) (ix (gt l i).fr) 0
        have := h _ _ u h1
        rw [if_neg (by simp)]; omega
    · exact ih (fits_le hle h) i (by omega)
theorem init_fit {p : Post} {x : Nat → Int} {k : Nat} (h : Fits (initN p k) x) (h0 : x 0 = 0) : ∀ i, i < k → (placeN p i).lo ≤ x i ∧ x i ≤ (placeN p i).hi := by
  intro i hi
  have h1 : Fits (initN p (i + 1)) x := by
    obtain ⟨m, rfl⟩ : ∃ m, k = i + 1 + m := ⟨k - (i + 1), by omega⟩
    exact fits_le (Le.init p (i + 1) m) h
  have h2 : Fits (setN (setN (initN p i) 0 i (placeN p i).hi) i 0 (-(placeN p i).lo)) x := fits_le (Le.setN ..) h1
  have h3 : Fits (setN (initN p i) 0 i (placeN p i).hi) x := fits_le (Le.setN ..) h2
  obtain ⟨u, a1, a2, _⟩ := setN_at (initN p i) 0 i (placeN p i).hi
  obtain ⟨v, b1, b2, _⟩ := setN_at (setN (initN p i) 0 i (placeN p i).hi) i 0 (-(placeN p i).lo)
  have c1 := h3 _ _ _ a1
  have c2 := h2 _ _ _ b1
  omega
theorem fits_sol {p : Post} {l : List Rule} {x : Nat → Int} (h : Fits (farOf p l) x) (h0 : x 0 = 0) : Sol p l x := by
  have h1 : Fits (rulesTo (initN p (nodes p)) l l.length) x := fits_le (Le.out ..) h
  exact ⟨h0, init_fit (fits_le (Le.rules ..) h1) h0, rules_fit _ h1⟩

/-! ### the bounds are closed -/
/-- by the nodes below k there is no shorter way -/
def Tri (n : Nat) (F : FM) (k : Nat) : Prop := ∀ a b c, a < n → b < n → c < k → ∀ u v, F a c = some u → F c b = some v → ∃ w, F a b = some w ∧ w ≤ u + v
def Diag (n : Nat) (F : FM) : Prop := ∀ a, a < n → F a a = some 0
theorem inner_row {F : FM} {y f : Nat} {first : Int} (hyf : y ≠ f) : ∀ k j, innerTo F y f first k y j = F y j := by
  intro k
  induction k with
  | zero => intro j; rfl
  | succ k ih =>
    intro j
    simp only [innerTo]
    cases innerTo F y f first k y k with
    | none => exact ih j
    | some s => dsimp only; rw [setN_ne _ _ _ _ _ _ (fun h => hyf h.1)]; exact ih j
theorem inner_other {F : FM} {y f : Nat} {first : Int} {a : Nat} (haf : a ≠ f) : ∀ k j, innerTo F y f first k a j = F a j := by
  intro k
  induction k with
  | zero => intro j; rfl
  | succ k ih =>
    intro j
    simp only [innerTo]
    cases innerTo F y f first k y k with
    | none => exact ih j
    | some s => dsimp only; rw [setN_ne _ _ _ _ _ _ (fun h => haf h.1)]; exact ih j
theorem inner_late {F : FM} {y f : Nat} {first : Int} : ∀ k j, k ≤ j → innerTo F y f first k f j = F f j := by
  intro k
  induction k with
  | zero => intro j _; rfl
  | succ k ih =>
    intro j hj
    simp only [innerTo]
    cases innerTo F y f first k y k with
    | none => exact ih j (by omega)
    | some s => dsimp only; rw [setN_ne _ _ _ _ _ _ (fun h => by omega)]; exact ih j (by omega)
/-- what a row gets: the least of what it had, and of the way by y -/
def minO (a b : Option Int) : Option Int := match a, b with
  | some u, some v => some (if v < u then v else u)
  | some u, none => some u
  | none, o => o
def addO (u : Int) (b : Option Int) : Option Int := b.map (u + ·)
theorem setN_eq (F : FM) (i j : Nat) (v : Int) : setN F i j v i j = minO (F i j) (some v) := by
  unfold setN minO
  cases h : F i j with
  | none => simp [put]
  | some o => dsimp only; split <;> simp [put, h]
theorem inner_at {F : FM} {y f : Nat} {first : Int} (hyf : y ≠ f ∨ first = 0) : ∀ k j, j < k → innerTo F y f first k f j = minO (F f j) (addO first (F y j)) := by
  intro k
  induction k with
  | zero => intro j hj; omega
  | succ k ih =>
    intro j hj
    have hrow : innerTo F y f first k y k = F y k := by
      by_cases e : y = f
      · subst e; exact inner_late k k (Nat.le_refl _)
      · exact inner_row e k k
    simp only [innerTo]
    rw [hrow]
    by_cases e : j = k
    · subst e
      cases hs : F y j with
      | none => dsimp only; rw [inner_late j j (Nat.le_refl _)]; unfold minO addO; cases F f j <;> rfl
      | some s => dsimp only; rw [setN_eq, inner_late j j (Nat.le_refl _)]; rfl
    · cases hs : F y k with
      | none => exact ih j (by omega)
      | some s => dsimp only; rw [setN_ne _ _ _ _ _ _ (fun h => e h.2)]; exact ih j (by omega)
theorem minO_self (a : Option Int) : minO a (addO 0 a) = a := by
  cases a with
  | none => rfl
  | some u => simp [minO, addO]
/-- with F y y = 0 the row and the column of y stay in the round of y -/
theorem mid_at {n : Nat} {F : FM} {y : Nat} (hy : F y y = some 0) (hyn : y < n) : ∀ k, k ≤ n → (∀ a j, k ≤ a → midTo n F y k a j = F a j) ∧ (∀ j, j < n → midTo n F y k y j = F y j) ∧
    (∀ a j, a < k → j < n → midTo n F y k a j = match F a y with | some s => minO (F a j) (addO s (F y j)) | none => F a j) := by
  intro k
  induction k with
  | zero => intro _; exact ⟨fun _ _ _ => rfl, fun _ _ => rfl, fun a j h => by omega⟩
  | succ k ih =>
    intro hk
    obtain ⟨h1, h2, h3⟩ := ih (by omega)
    have hcol : midTo n F y k k y = F k y := h1 k y (Nat.le_refl _)
    have hyrow : ∀ s, F k y = some s → k = y → s = 0 := fun s hs e => by subst e; rw [hy] at hs; cases hs; rfl
    cases hs : F k y with
    | none =>
      have e : midTo n F y (k + 1) = midTo n F y k := by simp only [midTo]; rw [hcol, hs]
      rw [e]
      refine ⟨fun a j ha => h1 a j (by omega), h2, fun a j ha hj => ?_⟩
      by_cases ea : a = k
      · subst ea; rw [h1 a j (Nat.le_refl _), hs]
      · exact h3 a j (by omega) hj
    | some s =>
      have e : midTo n F y (k + 1) = innerTo (midTo n F y k) y k s n := by simp only [midTo]; rw [hcol, hs]
      rw [e]
      have hor : y ≠ k ∨ s = 0 := by
        by_cases e' : y = k
        · exact .inr (hyrow s hs e'.symm)
        · exact .inl e'
      have hk' : ∀ j, j < n → innerTo (midTo n F y k) y k s n k j = minO (F k j) (addO s (F y j)) := fun j hj => by
        rw [inner_at hor n j hj, h1 k j (Nat.le_refl _), h2 j hj]
      refine ⟨fun a j ha => ?_, fun j hj => ?_, fun a j ha hj => ?_⟩
      · rw [inner_other (by omega)]; exact h1 a j (by omega)
      · by_cases e' : y = k
        · subst e'
          rw [hk' j hj, hyrow s hs rfl]; exact minO_self _
        · rw [inner_other e']; exact h2 j hj
      · by_cases ea : a = k
        · subst ea; rw [hk' j hj, hs]
        · rw [inner_other ea]; exact h3 a j (by omega) hj
theorem minO_le {a b : Option Int} {w : Int} (h : minO a b = some w) : a = some w ∨ b = some w := by
  unfold minO at h
  cases a <;> cases b <;> simp at h
  · exact .inr (by rw [h])
  · exact .inl (by rw [h])
  · split at h
    · exact .inr (by rw [h])
    · exact .inl (by rw [h])
theorem minO_left {a b : Option Int} {u : Int} (h : a = some u) : ∃ w, minO a b = some w ∧ w ≤ u := by
  subst h
  cases b with
  | none => exact ⟨u, rfl, Int.le_refl _⟩
  | some v => unfold minO; dsimp only; split <;> exact ⟨_, rfl, by omega⟩
theorem minO_right {a b : Option Int} {u : Int} (h : b = some u) : ∃ w, minO a b = some w ∧ w ≤ u := by
  subst h
  cases a with
  | none => exact ⟨u, rfl, Int.le_refl _⟩
  | some v => unfold minO; dsimp only; split <;> exact ⟨_, rfl, by omega⟩
/-- one round more, if no way around is below 0 afterwards -/
theorem tri_mid {n : Nat} {F : FM} {y : Nat} (hyn : y < n) (hy : F y y = some 0) (hT : Tri n F y) (hD : ∀ a v, a < n → midTo n F y n a a = some v → 0 ≤ v) : Tri n (midTo n F y n) (y + 1) := by
  obtain ⟨_, m2, m3⟩ := mid_at hy hyn n (Nat.le_refl _)
  have hcol : ∀ a, a < n → midTo n F y n a y = F a y := fun a ha => by
    rw [m3 a y ha hyn]
    cases h : F a y with
    | none => rfl
    | some s => simp [hy, minO, addO]
  -- the way by y
  have hby : ∀ a b u v, a < n → b < n → F a y = some u → F y b = some v → ∃ w, midTo n F y n a b = some w ∧ w ≤ u + v := fun a b u v ha hb hu hv => by
    rw [m3 a b ha hb, hu]
    dsimp only
    exact minO_right (by rw [hv]; rfl)
  have hold : ∀ a b u, a < n → b < n → F a b = some u → ∃ w, midTo n F y n a b = some w ∧ w ≤ u := fun a b u ha hb hu => (Le.mid n F y n).le a b u hu
  have hnew : ∀ a b w, a < n → b < n → midTo n F y n a b = some w → F a b = some w ∨ ∃ u v, F a y = some u ∧ F y b = some v ∧ w = u + v := fun a b w ha hb hw => by
    rw [m3 a b ha hb] at hw
    cases h : F a y with
    | none => rw [h] at hw; exact .inl hw
    | some s =>
      rw [h] at hw
      dsimp only at hw
      rcases minO_le hw with h1 | h1
      · exact .inl h1
      · cases h2 : F y b with
        | none => rw [h2] at h1; cases h1
        | some t => rw [h2] at h1; simp [addO] at h1; exact .inr ⟨s, t, rfl, rfl, h1.symm⟩
  intro a b c ha hb hc u v hu hv
  by_cases e : c = y
  · subst e
    rw [hcol a ha] at hu
    rw [m2 b hb] at hv
    exact hby a b u v ha hb hu hv
  · have hcy : c < y := by omega
    have hcn : c < n := by omega
    rcases hnew a c u ha hcn hu with h1 | ⟨u1, u2, h1, h2, rfl⟩
    · rcases hnew c b v hcn hb hv with g1 | ⟨v1, v2, g1, g2, rfl⟩
      · obtain ⟨w, hw, hle⟩ := hT a b c ha hb hcy u v h1 g1
        obtain ⟨w', hw', hle'⟩ := hold a b w ha hb hw
        exact ⟨w', hw', by omega⟩
      · obtain ⟨w, hw, hle⟩ := hT a y c ha hyn hcy u v1 h1 g1
        obtain ⟨w', hw', hle'⟩ := hby a b w v2 ha hb hw g2
        exact ⟨w', hw', by omega⟩
    · rcases hnew c b v hcn hb hv with g1 | ⟨v1, v2, g1, g2, rfl⟩
      · obtain ⟨w, hw, hle⟩ := hT y b c hyn hb hcy u2 v h2 g1
        obtain ⟨w', hw', hle'⟩ := hby a b u1 w ha hb h1 hw
        exact ⟨w', hw', by omega⟩
      · obtain ⟨w, hw, hle⟩ := hT y y c hyn hyn hcy u2 v1 h2 g1
        have : w = 0 := by rw [hy] at hw; cases hw; rfl
        obtain ⟨w', hw', hle'⟩ := hby a b u1 v2 ha hb h1 g2
        exact ⟨w', hw', by omega⟩
theorem okTo_iff (F : FM) : ∀ n, okTo F n = true ↔ ∀ a, a < n → 0 ≤ (F a a).getD 0 := by
  intro n
  induction n with
  | zero => exact ⟨fun _ a ha => by omega, fun _ => rfl⟩
  | succ n ih =>
    simp only [okTo, Bool.and_eq_true, ih, decide_eq_true_eq]
    constructor
    · rintro ⟨h1, h2⟩ a ha
      by_cases e : a = n
      · subst e; exact h2
      · exact h1 a (by omega)
    · intro h; exact ⟨fun a ha => h a (by omega), h n (by omega)⟩
/-- all are bounded, themselves by 0 at most -/
structure Full (n : Nat) (F : FM) : Prop where
  diag : ∀ a, a < n → ∃ v, F a a = some v ∧ v ≤ 0
  row : ∀ a, a < n → ∃ v, F 0 a = some v
  col : ∀ a, a < n → ∃ v, F a 0 = some v
theorem Full.le {n : Nat} {F G : FM} (h : Full n F) (hl : Le F G) : Full n G :=
  ⟨fun a ha => by obtain ⟨v, h1, h2⟩ := h.diag a ha; obtain ⟨u, g1, g2⟩ := hl.le a a v h1; exact ⟨u, g1, by omega⟩,
   fun a ha => by obtain ⟨v, h1⟩ := h.row a ha; obtain ⟨u, g1, _⟩ := hl.le 0 a v h1; exact ⟨u, g1⟩,
   fun a ha => by obtain ⟨v, h1⟩ := h.col a ha; obtain ⟨u, g1, _⟩ := hl.le a 0 v h1; exact ⟨u, g1⟩⟩
theorem Full.init (p : Post) (n : Nat) : Full n (initN p n) := by
  have key : ∀ a, a < n → Le (initN p (a + 1)) (initN p n) := fun a ha => by
    obtain ⟨m, rfl⟩ : ∃ m, n = a + 1 + m := ⟨n - (a + 1), by omega⟩
    exact Le.init p (a + 1) m
  refine ⟨fun a ha => ?_, fun a ha => ?_, fun a ha => ?_⟩
  · obtain ⟨u, h1, h2, _⟩ := setN_at (setN (setN (initN p a) 0 a (placeN p a).hi) a 0 (-(placeN p a).lo)) a a 0
    obtain ⟨w, g1, g2⟩ := (key a ha).le a a u h1
    exact ⟨w, g1, by omega⟩
  · obtain ⟨u, h1, _, _⟩ := setN_at (initN p a) 0 a (placeN p a).hi
    obtain ⟨v, k1, _⟩ := ((Le.setN (setN (initN p a) 0 a (placeN p a).hi) a 0 (-(placeN p a).lo)).trans (Le.setN _ a a 0)).le 0 a u h1
    obtain ⟨w, g1, _⟩ := (key a ha).le 0 a v k1
    exact ⟨w, g1⟩
  · obtain ⟨u, h1, _, _⟩ := setN_at (setN (initN p a) 0 a (placeN p a).hi) a 0 (-(placeN p a).lo)
    obtain ⟨v, k1, _⟩ := (Le.setN (setN (setN (initN p a) 0 a (placeN p a).hi) a 0 (-(placeN p a).lo)) a a 0).le a 0 u h1
    obtain ⟨w, g1, _⟩ := (key a ha).le a 0 v k1
    exact ⟨w, g1⟩
theorem tri_out {n : Nat} {F : FM} (hF : Full n F) (hok : okTo (outTo n F n) n = true) : ∀ k, k ≤ n → Tri n (outTo n F k) k := by
  have hpos : ∀ k, k ≤ n → ∀ a v, a < n → outTo n F k a a = some v → 0 ≤ v := fun k hk a v ha hv => by
    obtain ⟨m, rfl⟩ : ∃ m, n = k + m := ⟨n - k, by omega⟩
    have hle : ∀ m', Le (outTo (k + m) F k) (outTo (k + m) F (k + m')) := by
      intro m'
      induction m' with
      | zero => exact Le.refl _
      | succ m' ih => exact ih.trans (Le.mid ..)
    obtain ⟨u, hu, h1⟩ := (hle m).le a a v hv
    have := (okTo_iff _ _).1 hok a ha
    rw [hu] at this
    simp at this
    omega
  intro k
  induction k with
  | zero => intro _ a b c _ _ hc; omega
  | succ k ih =>
    intro hk
    have hd : outTo n F k k k = some 0 := by
      obtain ⟨v, h1, h2⟩ := (hF.le (Le.out n F k)).diag k (by omega)
      have := hpos k (by omega) k v (by omega) h1
      rw [h1]; congr 1; omega
    exact tri_mid (by omega) hd (ih (by omega)) (fun a v ha hv => hpos (k + 1) hk a v ha hv)
/-! ### and a truth goes through every number that they let -/
structure Closed (n : Nat) (F : FM) (g : Nat → Nat → Int) : Prop where
  get : ∀ a b, a < n → b < n → F a b = some (g a b)
  self : ∀ a, a < n → g a a = 0
  tri : ∀ a b c, a < n → b < n → c < n → g a b ≤ g a c + g c b
theorem closed_of {n : Nat} {F : FM} (h0 : 0 < n) (hF : Full n F) (hok : okTo (outTo n F n) n = true) : Closed n (outTo n F n) (fun a b => (outTo n F n a b).getD 0) := by
  have hT := tri_out hF hok n (Nat.le_refl _)
  have hF' := hF.le (Le.out n F n)
  have hget : ∀ a b, a < n → b < n → ∃ v, outTo n F n a b = some v := fun a b ha hb => by
    obtain ⟨u, hu⟩ := hF'.col a ha
    obtain ⟨v, hv⟩ := hF'.row b hb
    obtain ⟨w, hw, _⟩ := hT a b 0 ha hb h0 u v hu hv
    exact ⟨w, hw⟩
  refine ⟨fun a b ha hb => ?_, fun a ha => ?_, fun a b c ha hb hc => ?_⟩
  · obtain ⟨v, hv⟩ := hget a b ha hb; rw [hv]; rfl
  · obtain ⟨v, h1, h2⟩ := hF'.diag a ha
    have := (okTo_iff _ _).1 hok a ha
    skip
    rw [h1] at this ⊢
    simp at this ⊢; omega
  · obtain ⟨u, hu⟩ := hget a c ha hc
    obtain ⟨v, hv⟩ := hget c b hc hb
    obtain ⟨w, hw, hle⟩ := hT a b c ha hb hc u v hu hv
    skip
    rw [hu, hv, hw]; simpa using hle
def maxL (b : Int) : List Int → Int
  | [] => b
  | x :: l => max x (maxL b l)
theorem maxL_ge {b : Int} {l : List Int} : b ≤ maxL b l ∧ ∀ x ∈ l, x ≤ maxL b l := by
  induction l with
  | nil => exact ⟨Int.le_refl _, fun x hx => by simp at hx⟩
  | cons y l ih =>
    refine ⟨Int.le_trans ih.1 (Int.le_max_right _ _), fun x hx => ?_⟩
    rcases List.mem_cons.1 hx with rfl | h
    · exact Int.le_max_left _ _
    · exact Int.le_trans (ih.2 x h) (Int.le_max_right _ _)
theorem maxL_in {b : Int} {l : List Int} : maxL b l = b ∨ maxL b l ∈ l := by
  induction l with
  | nil => exact .inl rfl
  | cons y l ih =>
    unfold maxL
    rcases Int.le_total y (maxL b l) with h | h
    · rw [Int.max_eq_right h]
      rcases ih with e | e
      · exact .inl e
      · exact .inr (List.mem_cons_of_mem _ e)
    · rw [Int.max_eq_left h]; exact .inr (List.mem_cons_self ..)
/-- of some nodes the places are known; one more can be told -/
theorem extend {n : Nat} {F : FM} {g : Nat → Nat → Int} (hC : Closed n F g) {A : List Nat} {a0 : Nat} (ha0 : a0 ∈ A) (hA : ∀ a ∈ A, a < n) {x : Nat → Int} (hx : ∀ a ∈ A, ∀ b ∈ A, x b - x a ≤ g a b) {c : Nat} (hc : c < n) :
    ∃ v : Int, ∀ a ∈ A, v - x a ≤ g a c ∧ x a - v ≤ g c a := by
  -- the greatest of the lower bounds
  let v := maxL (x a0 - g c a0) (A.map fun a => x a - g c a)
  have hv : ∃ b ∈ A, v = x b - g c b := by
    rcases maxL_in (b := x a0 - g c a0) (l := A.map fun a => x a - g c a) with h | h
    · exact ⟨a0, ha0, h⟩
    · obtain ⟨b, hb, e⟩ := List.mem_map.1 h
      exact ⟨b, hb, e.symm⟩
  refine ⟨v, fun a ha => ⟨?_, ?_⟩⟩
  · obtain ⟨b, hb, e⟩ := hv
    have h1 := hx a ha b hb
    have h2 := hC.tri a b c (hA a ha) (hA b hb) hc
    omega
  · have := (maxL_ge (b := x a0 - g c a0) (l := A.map fun a => x a - g c a)).2 (x a - g c a) (List.mem_map.2 ⟨a, ha, rfl⟩)
    show x a - v ≤ _
    have h : x a - g c a ≤ v := this
    omega
theorem extend_all {n : Nat} {F : FM} {g : Nat → Nat → Int} (hC : Closed n F g) {A : List Nat} {a0 : Nat} (ha0 : a0 ∈ A) (hA : ∀ a ∈ A, a < n) {x : Nat → Int} (hx : ∀ a ∈ A, ∀ b ∈ A, x b - x a ≤ g a b) :
    ∀ k, k ≤ n → ∃ z : Nat → Int, (∀ a ∈ A, z a = x a) ∧ ∀ a b, (a ∈ A ∨ a < k) → (b ∈ A ∨ b < k) → z b - z a ≤ g a b := by
  intro k
  induction k with
  | zero => intro _; exact ⟨x, fun _ _ => rfl, fun a b ha hb => hx a (ha.resolve_right (by omega)) b (hb.resolve_right (by omega))⟩
  | succ k ih =>
    intro hk
    obtain ⟨z, h1, h2⟩ := ih (by omega)
    by_cases hkA : k ∈ A
    · refine ⟨z, h1, fun a b ha hb => h2 a b ?_ ?_⟩
      · rcases ha with h | h
        · exact .inl h
        · by_cases e : a = k
          · subst e; exact .inl hkA
          · exact .inr (by omega)
      · rcases hb with h | h
        · exact .inl h
        · by_cases e : b = k
          · subst e; exact .inl hkA
          · exact .inr (by omega)
    · obtain ⟨v, hv⟩ := extend hC (A := A ++ List.range k) (a0 := a0) (List.mem_append_left _ ha0) (fun a ha => by
        rcases List.mem_append.1 ha with h | h
        · exact hA a h
        · have := List.mem_range.1 h; omega) (x := z) (fun a ha b hb => h2 a b (by
          rcases List.mem_append.1 ha with h | h
          · exact .inl h
          · exact .inr (List.mem_range.1 h)) (by
          rcases List.mem_append.1 hb with h | h
          · exact .inl h
          · exact .inr (List.mem_range.1 h))) (c := k) (by omega)
      have hv' : ∀ a, (a ∈ A ∨ a < k) → v - z a ≤ g a k ∧ z a - v ≤ g k a := fun a ha => hv a (by
        rcases ha with h | h
        · exact List.mem_append_left _ h
        · exact List.mem_append_right _ (List.mem_range.2 h))
      refine ⟨fun a => if a = k then v else z a, fun a ha => ?_, fun a b ha hb => ?_⟩
      · dsimp only
        rw [if_neg (fun e => by subst e; exact hkA ha)]; exact h1 a ha
      · have red : ∀ a, (a ∈ A ∨ a < k + 1) → a ≠ k → (a ∈ A ∨ a < k) := fun a ha e => by
          rcases ha with h | h
          · exact .inl h
          · exact .inr (by omega)
        dsimp only
        by_cases ea : a = k
        · subst ea
          rw [if_pos rfl]
          by_cases eb : b = a
          · subst eb; rw [if_pos rfl, hC.self b (by omega)]; omega
          · rw [if_neg eb]
            exact (hv' b (red b hb eb)).2
        · rw [if_neg ea]
          by_cases eb : b = k
          · subst eb; rw [if_pos rfl]; exact (hv' a (red a ha ea)).1
          · rw [if_neg eb]
            exact h2 a b (red a ha ea) (red b hb eb)
theorem exists_fit {n : Nat} {F : FM} {g : Nat → Nat → Int} (hC : Closed n F g) (hF : ∀ i j v, F i j = some v → i < n ∧ j < n) {i j : Nat} (hi : i < n) (hj : j < n) {v : Int} (h1 : v ≤ g i j) (h2 : -g j i ≤ v) (h3 : i = j → v = 0) :
    ∃ x : Nat → Int, x 0 = 0 ∧ x j - x i = v ∧ Fits F x := by
  have hx : ∀ a ∈ [i, j], ∀ b ∈ [i, j], (fun a => if a = j then v else 0) b - (fun a => if a = j then v else 0) a ≤ g a b := by
    intro a ha b hb
    dsimp only
    by_cases e : i = j
    · subst e
      have ha' : a = i := by simpa using ha
      have hb' : b = i := by simpa using hb
      subst ha'; subst hb'
      rw [hC.self _ hi]; omega
    · rcases List.mem_cons.1 ha with rfl | ha'
      · rcases List.mem_cons.1 hb with rfl | hb'
        · rw [hC.self _ hi]; omega
        · have hb'' : b = j := by simpa using hb'
          subst hb''
          rw [if_pos rfl, if_neg e]; omega
      · have ha'' : a = j := by simpa using ha'
        subst ha''
        rcases List.mem_cons.1 hb with rfl | hb'
        · rw [if_pos rfl, if_neg e]; omega
        · have hb'' : b = a := by simpa using hb'
          subst hb''
          rw [hC.self _ hj]; omega
  obtain ⟨z, z1, z2⟩ := extend_all hC (A := [i, j]) (a0 := i) (List.mem_cons_self ..) (fun a ha => by
    rcases List.mem_cons.1 ha with rfl | h
    · exact hi
    · have : a = j := by simpa using h
      subst this; exact hj) hx n (Nat.le_refl _)
  refine ⟨fun a => z a - z 0, by simp, ?_, fun a b u hu => ?_⟩
  · have e1 := z1 i (List.mem_cons_self ..)
    have e2 := z1 j (List.mem_cons_of_mem _ (List.mem_cons_self ..))
    dsimp only at e1 e2 ⊢
    rw [if_pos rfl] at e2
    by_cases e : i = j
    · subst e
      rw [if_pos rfl] at e1
      have := h3 rfl
      omega
    · rw [if_neg e] at e1
      omega
  · obtain ⟨ha, hb⟩ := hF a b u hu
    have h := z2 a b (.inr ha) (.inr hb)
    have hg := hC.get a b ha hb
    rw [hu] at hg
    cases hg
    dsimp only; omega
/-! ### what the bounds of a post tell -/
def Dom (n : Nat) (F : FM) : Prop := ∀ i j v, F i j = some v → i < n ∧ j < n
theorem Dom.setN {n : Nat} {F : FM} (h : Dom n F) {i j : Nat} (hi : i < n) (hj : j < n) (v : Int) : Dom n (setN F i j v) := fun a b u hu => by
  by_cases e : a = i ∧ b = j
  · rw [e.1, e.2]; exact ⟨hi, hj⟩
  · rw [setN_ne F i j v a b e] at hu; exact h a b u hu
theorem Dom.init (p : Post) {n : Nat} (h0 : 0 < n) : ∀ k, k ≤ n → Dom n (initN p k) := by
  intro k
  induction k with
  | zero => intro _ i j v hv; cases hv
  | succ k ih => intro hk; exact (((ih (by omega)).setN h0 (by omega) _).setN (by omega) h0 _).setN (by omega) (by omega) _
def RulesIn (n : Nat) (l : List Rule) : Prop := ∀ i, i < l.length → ix (gt l i).fr < n ∧ ix (gt l i).to < n
theorem Dom.rules {n : Nat} {F : FM} {l : List Rule} (h : Dom n F) (hl : RulesIn n l) : ∀ k, k ≤ l.length → Dom n (rulesTo F l k) := by
  intro k
  induction k with
  | zero => intro _; exact h
  | succ k ih =>
    intro hk
    have h1 := hl k (by omega)
    simp only [rulesTo, putR]
    split
    · exact ((ih (by omega)).setN h1.2 h1.1 _).setN h1.2 h1.1 _
    · exact (ih (by omega)).setN h1.2 h1.1 _
theorem Dom.inner {n : Nat} {F : FM} (h : Dom n F) {y f : Nat} {first : Int} (hf : f < n) : ∀ k, k ≤ n → Dom n (innerTo F y f first k) := by
  intro k
  induction k with
  | zero => intro _; exact h
  | succ k ih =>
    intro hk
    simp only [innerTo]
    split
    · exact (ih (by omega)).setN hf (by omega) _
    · exact ih (by omega)
theorem Dom.mid {n : Nat} {F : FM} (h : Dom n F) {y : Nat} : ∀ k, k ≤ n → Dom n (midTo n F y k) := by
  intro k
  induction k with
  | zero => intro _; exact h
  | succ k ih =>
    intro hk
    simp only [midTo]
    split
    · exact (ih (by omega)).inner (by omega) n (Nat.le_refl _)
    · exact ih (by omega)
theorem Dom.out {n : Nat} {F : FM} (h : Dom n F) : ∀ k, k ≤ n → Dom n (outTo n F k) := by
  intro k
  induction k with
  | zero => intro _; exact h
  | succ k ih => intro hk; exact (ih (by omega)).mid n (Nat.le_refl _)
theorem far_dom {p : Post} {l : List Rule} (hl : RulesIn (nodes p) l) : Dom (nodes p) (farOf p l) :=
  Dom.out (Dom.rules (Dom.init p (by unfold nodes; omega) _ (Nat.le_refl _)) hl _ (Nat.le_refl _)) _ (Nat.le_refl _)
def G (p : Post) (l : List Rule) (i j : Nat) : Int := (farOf p l i j).getD 0
theorem far_full (p : Post) (l : List Rule) : Full (nodes p) (rulesTo (initN p (nodes p)) l l.length) := (Full.init p _).le (Le.rules ..)
theorem far_closed {p : Post} {l : List Rule} (hok : farOk p l = true) : Closed (nodes p) (farOf p l) (G p l) :=
  closed_of (by unfold nodes; omega) (far_full p l) hok
theorem far_sol {p : Post} {l : List Rule} (hl : RulesIn (nodes p) l) (hok : farOk p l = true) {i j : Nat} (hi : i < nodes p) (hj : j < nodes p) {v : Int} (h1 : v ≤ G p l i j) (h2 : -G p l j i ≤ v) (h3 : i = j → v = 0) :
    ∃ x, Sol p l x ∧ x j - x i = v := by
  obtain ⟨x, x0, hv, hx⟩ := exists_fit (far_closed hok) (far_dom hl) hi hj h1 h2 h3
  exact ⟨x, fits_sol hx x0, hv⟩
theorem far_le {p : Post} {l : List Rule} (hok : farOk p l = true) {i j : Nat} (hi : i < nodes p) (hj : j < nodes p) {x : Nat → Int} (hx : Sol p l x) : x j - x i ≤ G p l i j :=
  sol_fits hx i j _ ((far_closed hok).get i j hi hj)
theorem far_ok {p : Post} {l : List Rule} (hl : RulesIn (nodes p) l) : farOk p l = true ↔ ∃ x, Sol p l x := by
  constructor
  · intro h
    obtain ⟨x, hx, _⟩ := far_sol hl h (i := 0) (j := 0) (by unfold nodes; omega) (by unfold nodes; omega) (v := 0)
      (by have := (far_closed h).self 0 (by unfold nodes; omega); omega) (by have := (far_closed h).self 0 (by unfold nodes; omega); omega) (fun _ => rfl)
    exact ⟨x, hx⟩
  · rintro ⟨x, hx⟩
    refine (okTo_iff _ _).2 fun a ha => ?_
    cases hv : farOf p l a a with
    | none => simp
    | some v =>
      have := sol_fits hx a a v hv
      simp; omega
/-- both ends are of a truth -/
theorem far_ends {p : Post} {l : List Rule} (hl : RulesIn (nodes p) l) (hok : farOk p l = true) {i j : Nat} (hi : i < nodes p) (hj : j < nodes p) : -G p l j i ≤ G p l i j ∧ (i = j → G p l i j = 0) := by
  have hC := far_closed hok
  have h1 := hC.tri i i j hi hi hj
  rw [hC.self i hi] at h1
  exact ⟨by omega, fun e => by subst e; exact hC.self i hi⟩
theorem far_max {p : Post} {l : List Rule} (hl : RulesIn (nodes p) l) (hok : farOk p l = true) {i j : Nat} (hi : i < nodes p) (hj : j < nodes p) : ∃ x, Sol p l x ∧ x j - x i = G p l i j := by
  obtain ⟨h1, h2⟩ := far_ends hl hok hi hj
  exact far_sol hl hok hi hj (Int.le_refl _) h1 h2
/-! ### how great the numbers get -/
def Num (F : FM) (m : Int) : Prop := ∀ i j v, F i j = some v → -m ≤ v ∧ v ≤ m
theorem Num.mono {F : FM} {m m' : Int} (h : Num F m) (hm : m ≤ m') : Num F m' := fun i j v hv => by have := h i j v hv; omega
theorem Num.setN {F : FM} {m : Int} (h : Num F m) {i j : Nat} {v : Int} (hv : -m ≤ v ∧ v ≤ m) : Num (setN F i j v) m := fun a b u hu => by
  by_cases e : a = i ∧ b = j
  · obtain ⟨rfl, rfl⟩ := e
    unfold Po.setN at hu
    cases hF : F a b with
    | none => rw [hF] at hu; simp [put] at hu; omega
    | some o =>
      rw [hF] at hu
      dsimp only at hu
      split at hu
      · simp [put] at hu; omega
      · exact h a b u hu
  · rw [setN_ne F i j v a b e] at hu; exact h a b u hu
/-- within the steps of one node: what is read of the row of y is still as it was -/
theorem inner_read {F : FM} {y f : Nat} {first : Int} (k : Nat) : innerTo F y f first k y k = F y k := by
  by_cases e : y = f
  · subst e; exact inner_late k k (Nat.le_refl _)
  · exact inner_row e k k
theorem Num.inner {F : FM} {m : Int} (h : Num F m) (h0 : 0 ≤ m) {y f : Nat} {first : Int} (hf : -m ≤ first ∧ first ≤ m) : ∀ k, Num (innerTo F y f first k) (2 * m) := by
  intro k
  induction k with
  | zero => exact h.mono (by omega)
  | succ k ih =>
    simp only [innerTo]
    split
    · rename_i s hs
      rw [inner_read] at hs
      have := h _ _ _ hs
      exact ih.setN (by omega)
    · exact ih
theorem pow_pos' (k : Nat) : (1 : Int) ≤ 2 ^ k := by
  have : (1 : Nat) ≤ 2 ^ k := Nat.one_le_two_pow
  exact_mod_cast this
theorem Num.mid {n : Nat} {F : FM} {m : Int} (h : Num F m) (h0 : 0 ≤ m) {y : Nat} : ∀ k, Num (midTo n F y k) (m * 2 ^ k) := by
  intro k
  induction k with
  | zero => simpa [midTo] using h
  | succ k ih =>
    have e : m * 2 ^ (k + 1) = 2 * (m * 2 ^ k) := by rw [Int.pow_succ]; rw [← Int.mul_assoc, Int.mul_comm]
    have hp : 0 ≤ m * 2 ^ k := Int.mul_nonneg h0 (by have := pow_pos' k; omega)
    simp only [midTo]
    rw [e]
    split
    · rename_i s hs
      exact ih.inner hp (ih k y s hs) n
    · exact ih.mono (by omega)
theorem Num.out {n : Nat} {F : FM} {m : Int} (h : Num F m) (h0 : 0 ≤ m) : ∀ k, Num (outTo n F k) (m * 2 ^ (n * k)) := by
  intro k
  induction k with
  | zero => simpa [outTo] using h
  | succ k ih =>
    have e : m * 2 ^ (n * (k + 1)) = m * 2 ^ (n * k) * 2 ^ n := by rw [Nat.mul_succ, Int.pow_add, Int.mul_assoc]
    rw [e]
    exact ih.mid (Int.mul_nonneg h0 (by have := pow_pos' (n * k); omega)) n
end Go.Po
/- How posts lie in memory; which are valid. -/
namespace Go.Po
open Go.W (gt gt_of)
theorem gt_mem {α : Type} [Inhabited α] {l : List α} {i : Nat} (h : i < l.length) : gt l i ∈ l := by
  have : gt l i = l[i] := by simp [gt, List.getD, h]
  rw [this]; exact List.getElem_mem h
theorem all_iff {α : Type} [Inhabited α] {l : List α} {p : α → Bool} : l.all p = true ↔ ∀ i, i < l.length → p (gt l i) = true := by
  rw [List.all_eq_true]
  constructor
  · intro h i hi; exact h _ (gt_mem hi)
  · intro h x hx
    obtain ⟨i, hi, rfl⟩ := List.getElem_of_mem hx
    have := h i hi
    simpa [gt, List.getD, hi] using this
theorem ext_round {p : Nat → Prop} {k : Nat} (h : ∀ i, i < k → p i) (hk : p k) : ∀ i, i < k + 1 → p i := fun i hi => by
  rcases Nat.lt_or_ge i k with h' | h'
  · exact h i h'
  · have : i = k := by omega
    rw [this]; exact hk
def inB (n lo hi : Int) : Bool := decide (lo ≤ n ∧ n ≤ hi)
def spanP (s : Sp) : Bool := decide (0 ≤ s.lo ∧ s.lo ≤ s.hi ∧ s.hi ≤ 40)
def whoP (p : Post) (n : Int) : Bool := decide (-1 ≤ n ∧ n ≤ (p.bathers.length : Int) - 1)
def claimP (p : Post) (c : PClaim) : Bool := whoP p c.a && whoP p c.b
def postB (p : Post) : Bool := spanP p.post && decide (p.bathers.length ≤ 5) && decide (p.claims.length ≤ 8) && p.bathers.all (fun x => spanP x.place) && p.claims.all (claimP p)
theorem postB_iff (p : Post) : postB p = true ↔ spanP p.post = true ∧ p.bathers.length ≤ 5 ∧ p.claims.length ≤ 8 ∧ (∀ i, i < p.bathers.length → spanP (gt p.bathers i).place = true) ∧ (∀ i, i < p.claims.length → claimP p (gt p.claims i) = true) := by
  simp only [postB, Bool.and_eq_true, decide_eq_true_eq, all_iff, and_assoc]
theorem post_num {p : Post} (h : postB p = true) : (0 ≤ p.post.lo ∧ p.post.lo ≤ p.post.hi ∧ p.post.hi ≤ 40) ∧ p.bathers.length ≤ 5 ∧ p.claims.length ≤ 8 ∧
    (∀ i, i < p.bathers.length → 0 ≤ (gt p.bathers i).place.lo ∧ (gt p.bathers i).place.lo ≤ (gt p.bathers i).place.hi ∧ (gt p.bathers i).place.hi ≤ 40) ∧
    (∀ i, i < p.claims.length → (-1 ≤ (gt p.claims i).a ∧ (gt p.claims i).a < p.bathers.length) ∧ (-1 ≤ (gt p.claims i).b ∧ (gt p.claims i).b < p.bathers.length)) := by
  obtain ⟨h1, h2, h3, h4, h5⟩ := (postB_iff p).1 h
  refine ⟨by simpa [spanP] using h1, h2, h3, fun i hi => by simpa [spanP] using h4 i hi, fun i hi => ?_⟩
  have := h5 i hi
  simp only [claimP, whoP, Bool.and_eq_true, decide_eq_true_eq] at this
  omega
/-- the places of all nodes of a valid post -/
theorem place_num {p : Post} (h : postB p = true) {i : Nat} (hi : i < nodes p) : 0 ≤ (placeN p i).lo ∧ (placeN p i).lo ≤ (placeN p i).hi ∧ (placeN p i).hi ≤ 40 := by
  obtain ⟨h1, _, _, h4, _⟩ := post_num h
  unfold nodes at hi
  match i with
  | 0 => simp [placeN]
  | 1 => exact h1
  | j + 2 => exact h4 j (by omega)
theorem num_init {p : Post} (h : postB p = true) : ∀ k, k ≤ nodes p → Num (initN p k) 40 := by
  intro k
  induction k with
  | zero => intro _ i j v hv; cases hv
  | succ k ih =>
    intro hk
    have hp := place_num h (i := k) (by omega)
    exact (((ih (by omega)).setN (by omega)).setN (by omega)).setN (by omega)
theorem num_rules {F : FM} {l : List Rule} (h : Num F 40) : ∀ k, Num (rulesTo F l k) 40 := by
  intro k
  induction k with
  | zero => exact h
  | succ k ih =>
    simp only [rulesTo, putR]
    split
    · exact (ih.setN (by omega)).setN (by omega)
    · exact ih.setN (by omega)
end Go.Po
namespace Go.Proofs.Ytkhmmefgllbobaa
open Go.W Go.Po
def bathC (x : Bath) : List Value := [.bool x.lady, it x.place.lo, it x.place.hi]
def claimC (c : PClaim) : List Value := [it c.a, it c.b, .bool c.not]
def intC (x : Int) : List Value := [it x]
def ruleV (r : Rule) : Value := .iface (if r.bef then 132 else 130) (.agg #[it r.fr, it r.to])
def ruleC (r : Rule) : List Value := [ruleV r]
theorem bathC_len : ∀ x, (bathC x).length = 3 := fun _ => rfl
theorem claimC_len : ∀ x, (claimC x).length = 3 := fun _ => rfl
theorem intC_len : ∀ x, (intC x).length = 1 := fun _ => rfl
theorem ruleC_len : ∀ x, (ruleC x).length = 1 := fun _ => rfl
structure PostR (D : Imm) (p : Post) (a1 : Option Addr) (n1 : Nat) (a2 : Option Addr) (n2 : Nat) : Prop where
  bath : SlL D 3 (p.bathers.map bathC) a1 n1
  claim : SlL D 3 (p.claims.map claimC) a2 n2
  len1 : n1 ≤ 1000
  len2 : n2 ≤ 1000
theorem PostR.ext {w : World} {D D' : Imm} (hD : DExt w D D') {p : Post} {a1 : Option Addr} {n1 : Nat} {a2 : Option Addr} {n2 : Nat} (h : PostR D p a1 n1 a2 n2) : PostR D' p a1 n1 a2 n2 :=
  ⟨h.bath.ext hD, h.claim.ext hD, h.len1, h.len2⟩
def postO (p : Post) (s1 s2 : Value) (t : TypeId) : Obj := .cells (List.toArray [it p.post.lo, it p.post.hi, s1, s2]) t (0, 0)
def BeachAt (D : Imm) (q : Nat) (p : Post) (s1 s2 : Value) : Prop := D q = some (postO p s1 s2 94)
theorem BeachAt.ext {w : World} {D D' : Imm} (hD : DExt w D D') {q : Nat} {p : Post} {s1 s2 : Value} (h : BeachAt D q p s1 s2) : BeachAt D' q p s1 s2 := hD.old _ _ h
def stopC (e : Int) : List PanicEntry := [{ v := .iface 124 (.agg #[it e]), recovered := false }]
/-! ### keys: two nodes -/
abbrev Nd2 := Fin 7 × Fin 7
def ndV (y : Nd2) : Value := .agg #[it ((y.1.val : Int) - 2), it ((y.2.val : Int) - 2)]
theorem ndV_inj (x y : Nd2) (h : ndV x = ndV y) : x = y := by
  obtain ⟨⟨a, ha⟩, ⟨b, hb⟩⟩ := x
  obtain ⟨⟨c, hc⟩, ⟨e, he⟩⟩ := y
  simp only [ndV, Value.agg.injEq, it] at h
  simp at h
  obtain ⟨h1, h2⟩ := h
  have e1 : a = c := by omega
  have e2 : b = e := by omega
  subst e1; subst e2; rfl
theorem key79 : Try.prog.keyType 79 = true := by kernel_rfl
theorem laidOut : laidOutB Try.prog = true := by kernel_rfl
theorem law79 : WideMaps.KeyLaw Try.prog 79 := deep_law_gate laidOut (Nat.le_of_ble_eq_true (by kernel_rfl)) (Nat.le_of_ble_eq_true (by kernel_rfl)) key79 (by kernel_rfl)
noncomputable def keyAllB : Bool := (List.range 7).all fun a => (List.range 7).all fun b => (keyOf Try.prog 79 (.agg #[.int .i64 ((a : Int) - 2), .int .i64 ((b : Int) - 2)])).isSome
theorem keyAll : keyAllB = true := by kernel_rfl
theorem key_nd (y : Nd2) : ∃ l, keyOf Try.prog 79 (ndV y) = some l := by
  have h := List.all_eq_true.1 (List.all_eq_true.1 keyAll y.1.val (List.mem_range.2 y.1.isLt)) y.2.val (List.mem_range.2 y.2.isLt)
  exact Option.isSome_iff_exists.1 h
theorem ndV_of {i j : Int} (hi : -2 ≤ i ∧ i < 5) (hj : -2 ≤ j ∧ j < 5) : ∃ y : Nd2, y.1.val = ix i ∧ y.2.val = ix j ∧ Value.agg #[it i, it j] = ndV y := by
  refine ⟨(⟨ix i, by unfold ix; omega⟩, ⟨ix j, by unfold ix; omega⟩), rfl, rfl, ?_⟩
  unfold ndV
  have e1 : ((ix i : Nat) : Int) - 2 = i := by unfold ix; omega
  have e2 : ((ix j : Nat) : Int) - 2 = j := by unfold ix; omega
  dsimp only
  rw [e1, e2]
/-- the map holds these bounds -/
def MapF (es : Array MapEntry) (clock : Nat) (F : FM) : Prop := MapR ndV es clock (fun y : Nd2 => F y.1.val y.2.val)
theorem MapF.empty : MapF #[] 0 (fun _ _ => none) := MapR.empty _
theorem mapF_put {F : FM} (y : Nd2) (v : Int) : putF (fun y : Nd2 => F y.1.val y.2.val) y v = fun z : Nd2 => put F y.1.val y.2.val v z.1.val z.2.val := by
  funext z
  unfold putF put
  by_cases h : z = y
  · subst h; rw [if_pos rfl, if_pos ⟨rfl, rfl⟩]
  · rw [if_neg h, if_neg (fun hh => h (Prod.ext (Fin.ext hh.1) (Fin.ext hh.2)))]
end Go.Proofs.Ytkhmmefgllbobaa
/- The rules of claims; bounds that are set. -/
namespace Go.Po
open Go.W (gt gt_of)
def claimR (c : PClaim) : Rule := if c.not then ⟨false, c.b, c.a⟩ else ⟨true, c.a, c.b⟩
/-- the rules of those of the first k claims that are in a set -/
def selR (p : Post) (s : Nat) : Nat → List Rule
  | 0 => []
  | k + 1 => if s / 2 ^ k % 2 = 1 then selR p s k ++ [claimR (gt p.claims k)] else selR p s k
def selA (p : Post) (s : Nat) : List Rule := selR p s p.claims.length
def everyS (p : Post) : Nat := 2 ^ p.claims.length - 1
theorem selR_len (p : Post) (s : Nat) : ∀ k, (selR p s k).length ≤ k := by
  intro k
  induction k with
  | zero => exact Nat.le_refl _
  | succ k ih =>
    simp only [selR]
    split
    · rw [List.length_append]; simp; omega
    · omega
theorem gt_append {α : Type} [Inhabited α] (a b : List α) (i : Nat) : gt (a ++ b) i = if i < a.length then gt a i else gt b (i - a.length) := by
  unfold gt List.getD
  split
  · rename_i h; rw [List.getElem?_append_left h]
  · rename_i h; rw [List.getElem?_append_right (by omega)]
theorem rulesIn_app {n : Nat} {a b : List Rule} (ha : RulesIn n a) (hb : RulesIn n b) : RulesIn n (a ++ b) := fun i hi => by
  rw [gt_append]
  split
  · rename_i h; exact ha i h
  · rename_i h; exact hb _ (by rw [List.length_append] at hi; omega)
theorem rulesIn_one {n : Nat} {r : Rule} (h : ix r.fr < n ∧ ix r.to < n) : RulesIn n [r] := fun i hi => by
  have : i = 0 := by simp at hi; omega
  subst this; exact h
/-- what can be a rule of a post -/
def RuleIn (p : Post) (r : Rule) : Prop := (-2 ≤ r.fr ∧ r.fr < p.bathers.length) ∧ (-2 ≤ r.to ∧ r.to < p.bathers.length)
theorem RuleIn.ix {p : Post} {r : Rule} (h : RuleIn p r) : ix r.fr < nodes p ∧ ix r.to < nodes p := by
  unfold Po.ix nodes RuleIn at *; omega
theorem claimR_in {p : Post} (h : postB p = true) {k : Nat} (hk : k < p.claims.length) : RuleIn p (claimR (gt p.claims k)) := by
  have := (post_num h).2.2.2.2 k hk
  unfold claimR RuleIn
  split <;> (dsimp only; omega)
def RulesP (p : Post) (l : List Rule) : Prop := ∀ i, i < l.length → RuleIn p (gt l i)
theorem RulesP.in {p : Post} {l : List Rule} (h : RulesP p l) : RulesIn (nodes p) l := fun i hi => (h i hi).ix
theorem RulesP.app {p : Post} {a b : List Rule} (ha : RulesP p a) (hb : RulesP p b) : RulesP p (a ++ b) := fun i hi => by
  rw [gt_append]
  split
  · rename_i h; exact ha i h
  · rename_i h; exact hb _ (by rw [List.length_append] at hi; omega)
theorem RulesP.one {p : Post} {r : Rule} (h : RuleIn p r) : RulesP p [r] := fun i hi => by
  have : i = 0 := by simp at hi; omega
  subst this; exact h
theorem selR_in {p : Post} (h : postB p = true) (s : Nat) : ∀ k, k ≤ p.claims.length → RulesP p (selR p s k) := by
  intro k
  induction k with
  | zero => intro _ i hi; simp [selR] at hi
  | succ k ih =>
    intro hk
    simp only [selR]
    split
    · exact (ih (by omega)).app (RulesP.one (claimR_in h (by omega)))
    · exact ih (by omega)
theorem set_yes {F : FM} {i j : Nat} {v : Int} (h : (F i j).isSome = false ∨ v < (F i j).getD 0) : setN F i j v = put F i j v := by
  unfold setN
  cases hF : F i j with
  | none => rfl
  | some o =>
    rw [hF] at h
    have : v < o := by simpa using h
    dsimp only; rw [if_pos this]
theorem set_no {F : FM} {i j : Nat} {v : Int} (h : (F i j).isSome = true) (h2 : ¬ v < (F i j).getD 0) : setN F i j v = F := by
  unfold setN
  cases hF : F i j with
  | none => rw [hF] at h; cases h
  | some o =>
    rw [hF] at h2
    have : ¬ v < o := by simpa using h2
    dsimp only; rw [if_neg this]
/-- what is added up fits -/
theorem add_fits {p : Post} {l : List Rule} (hv : postB p = true) {k j i : Nat} (hk : k < nodes p) (hj : j < nodes p) {s t : Int} (hs : midTo (nodes p) (outTo (nodes p) (rulesTo (initN p (nodes p)) l l.length) k) k j j k = some s)
    (ht : innerTo (midTo (nodes p) (outTo (nodes p) (rulesTo (initN p (nodes p)) l l.length) k) k j) k j s i k i = some t) : -9223372036854775808 ≤ s + t ∧ s + t ≤ 9223372036854775807 := by
  have hn : nodes p ≤ 7 := by have := (post_num hv).2.1; unfold nodes; omega
  have h0 : Num (rulesTo (initN p (nodes p)) l l.length) 40 := num_rules (num_init hv _ (Nat.le_refl _)) _
  have h1 := (h0.out (n := nodes p) (by omega) k)
  have h2 := h1.mid (n := nodes p) (y := k) (Int.mul_nonneg (by omega) (by have := pow_pos' (nodes p * k); omega)) j
  have hmono : (2 : Int) ^ (nodes p * k + j) ≤ 2 ^ 48 := by
    have hle : nodes p * k + j ≤ 48 := by
      have : nodes p * k ≤ 7 * 6 := Nat.mul_le_mul hn (by omega)
      omega
    have : (2 : Nat) ^ (nodes p * k + j) ≤ 2 ^ 48 := Nat.pow_le_pow_right (by omega) hle
    exact_mod_cast this
  rw [Int.mul_assoc, ← Int.pow_add] at h2
  have h3 := h2 _ _ _ hs
  rw [inner_read] at ht
  have h4 := h2 _ _ _ ht
  have e : (2 : Int) ^ 48 = 281474976710656 := by decide
  omega
theorem nodes_le {p : Post} (hv : postB p = true) : nodes p ≤ 7 := by have := (post_num hv).2.1; unfold nodes; omega
/-! ### what is told -/
def allR (p : Post) : List Rule := selA p (everyS p)
def okA (p : Post) : Bool := farOk p (allR p)
def GA (p : Post) (i j : Nat) : Int := G p (allR p) i j
theorem allR_in {p : Post} (h : postB p = true) : RulesP p (allR p) := selR_in h _ _ (Nat.le_refl _)
theorem selA_in {p : Post} (h : postB p = true) (s : Nat) : RulesP p (selA p s) := selR_in h _ _ (Nat.le_refl _)
theorem ix_who {p : Post} {n : Int} (h : whoP p n = true) : ix n < nodes p ∧ 1 ≤ ix n ∧ ((ix n : Nat) : Int) - 2 = n := by
  simp only [whoP, decide_eq_true_eq] at h
  unfold ix nodes; omega
theorem far_num {p : Post} (h : postB p = true) {l : List Rule} (hl : RulesP p l) (hok : farOk p l = true) {i j : Nat} (hi : i < nodes p) (hj : j < nodes p) : -40 ≤ G p l i j ∧ G p l i j ≤ 40 := by
  obtain ⟨x, hx, he⟩ := far_max hl.in hok hi hj
  have h1 := hx.place i hi
  have h2 := hx.place j hj
  have h3 := place_num h hi
  have h4 := place_num h hj
  omega
def toldE (p : Post) (v : Bool) : Int := if postB p = false then 1 else if v = false then 2 else if okA p = false then 10 else 0
def gradeI (is not : Bool) : Int := if not = false then 2 else if is = false then 0 else 1
def PlaceOut (p : Post) (n : Int) : Sp × Int := if toldE p (whoP p n) ≠ 0 then (⟨0, 0⟩, toldE p (whoP p n)) else (⟨-GA p (ix n) 0, GA p 0 (ix n)⟩, 0)
def BeforeOut (p : Post) (a b : Int) : Int × Int := if toldE p (whoP p a && whoP p b) ≠ 0 then (0, toldE p (whoP p a && whoP p b)) else (gradeI (decide (0 < GA p (ix a) (ix b))) (decide (-GA p (ix b) (ix a) ≤ 0)), 0)
def nearS (lo hi : Int) : Sp := if hi < 0 then ⟨max 0 (-hi), max (-lo) (-(-hi))⟩ else ⟨max 0 lo, max hi (-lo)⟩
def NearOut (p : Post) (a b : Int) : Sp × Int := if toldE p (whoP p a && whoP p b) ≠ 0 then (⟨0, 0⟩, toldE p (whoP p a && whoP p b)) else (nearS (-GA p (ix b) (ix a)) (GA p (ix a) (ix b)), 0)
/-! ### the by-law -/
/-- the rule that bather i kept the by-law, or broke it -/
def sideR (p : Post) (i : Nat) (wrong : Bool) : Rule := if (gt p.bathers i).lady = wrong then ⟨false, -1, (i : Int)⟩ else ⟨true, (i : Int), -1⟩
theorem sideR_in {p : Post} {i : Nat} (h : i < p.bathers.length) (wrong : Bool) : RuleIn p (sideR p i wrong) := by
  unfold sideR RuleIn
  split <;> (dsimp only; omega)
def canBreak (p : Post) (i : Nat) (wrong : Bool) : Bool := farOk p (allR p ++ [sideR p i wrong])
/-- bathers of whom f says so, as a set -/
def setTo (f : Nat → Bool) : Nat → Nat
  | 0 => 0
  | k + 1 => if f k then setTo f k + 2 ^ k else setTo f k
theorem setTo_lt (f : Nat → Bool) : ∀ k, setTo f k < 2 ^ k := by
  intro k
  induction k with
  | zero => simp [setTo]
  | succ k ih => simp only [setTo, Nat.pow_succ]; split <;> omega
theorem or_pow {a k : Nat} (h : a < 2 ^ k) : Nat.lor a (2 ^ k) = a + 2 ^ k := by
  have := Nat.two_pow_add_eq_or_of_lt h 1
  rw [Nat.mul_one] at this
  show a ||| 2 ^ k = _
  rw [Nat.or_comm, ← this]; omega
def BreaksOut (p : Post) : Int × Int × Int := if toldE p true ≠ 0 then (0, 0, toldE p true) else (((setTo (fun i => !canBreak p i false) p.bathers.length : Nat) : Int), ((setTo (fun i => canBreak p i true) p.bathers.length : Nat) : Int), 0)
/-! ### who can have broken it together -/
/-- how many broke it, of each way that can be, from bather i on -/
def onL (p : Post) : Nat → List Rule → Nat → Int → List Int
  | 0, l, _, m => if farOk p l = false then [] else [m]
  | rem + 1, l, i, m => if farOk p l = false then [] else onL p rem (l ++ [sideR p i false]) (i + 1) m ++ onL p rem (l ++ [sideR p i true]) (i + 1) (m + 1)
def brokeL (p : Post) : List Int := onL p p.bathers.length (allR p) 0 0
theorem onL_no {p : Post} {l : List Rule} (h : farOk p l = false) (rem i : Nat) (m : Int) : onL p rem l i m = [] := by
  cases rem <;> simp [onL, h]
theorem onL_end {p : Post} {l : List Rule} (h : farOk p l = true) (i : Nat) (m : Int) : onL p 0 l i m = [m] := by simp [onL, h]
theorem onL_step {p : Post} {l : List Rule} (h : farOk p l = true) (rem i : Nat) (m : Int) : onL p (rem + 1) l i m = onL p rem (l ++ [sideR p i false]) (i + 1) m ++ onL p rem (l ++ [sideR p i true]) (i + 1) (m + 1) := by simp [onL, h]
/-- what the first j of both sides give -/
def onTo (p : Post) (rem : Nat) (l : List Rule) (i : Nat) (m : Int) : Nat → List Int
  | 0 => []
  | j + 1 => onTo p rem l i m j ++ onL p rem (l ++ [sideR p i (decide (j = 1))]) (i + 1) (m + (j : Int))
theorem onTo_two {p : Post} {l : List Rule} (h : farOk p l = true) (rem i : Nat) (m : Int) : onTo p rem l i m 2 = onL p (rem + 1) l i m := by
  rw [onL_step h]; simp [onTo]
/-- a part of a list, from k on -/
def PartAt (A L : List Int) (k : Nat) : Prop := ∃ pre post, A = pre ++ (L ++ post) ∧ pre.length = k
theorem PartAt.at {A L : List Int} {k : Nat} (h : PartAt A L k) (j : Nat) (hj : j < L.length) : gt A (k + j) = gt L j ∧ k + j < A.length := by
  obtain ⟨pre, post, rfl, rfl⟩ := h
  refine ⟨?_, by simp only [List.length_append]; omega⟩
  rw [gt_append, if_neg (by omega), gt_append, if_pos (by omega)]
  congr 1; omega
theorem PartAt.left {A L M : List Int} {k : Nat} (h : PartAt A (L ++ M) k) : PartAt A L k := by
  obtain ⟨pre, post, rfl, rfl⟩ := h
  exact ⟨pre, M ++ post, by simp, rfl⟩
theorem PartAt.right {A L M : List Int} {k : Nat} (h : PartAt A (L ++ M) k) : PartAt A M (k + L.length) := by
  obtain ⟨pre, post, rfl, rfl⟩ := h
  exact ⟨pre ++ L, post, by simp, by simp⟩
theorem PartAt.to {A : List Int} {p : Post} {rem : Nat} {l : List Rule} {i : Nat} {m : Int} {k : Nat} (h : PartAt A (onTo p rem l i m 2) k) {j : Nat} (hj : j < 2) : PartAt A (onL p rem (l ++ [sideR p i (decide (j = 1))]) (i + 1) (m + (j : Int))) (k + (onTo p rem l i m j).length) := by
  have hs : ∀ j, j < 2 → PartAt A (onTo p rem l i m (j + 1)) k := fun j hj => by
    rcases (show j = 0 ∨ j = 1 by omega) with rfl | rfl
    · exact PartAt.left (M := onL p rem (l ++ [sideR p i (decide (1 = 1))]) (i + 1) (m + ((1 : Nat) : Int))) h
    · exact h
  exact (hs j hj).right
/-- a bather breaks the by-law -/
def Brk (p : Post) (x : Nat → Int) (i : Nat) : Prop := ¬ ((x (i + 2) < x 1) ↔ (gt p.bathers i).lady = true)
instance (p : Post) (x : Nat → Int) (i : Nat) : Decidable (Brk p x i) := by unfold Brk; infer_instance
theorem side_brk {p : Post} {x : Nat → Int} {i : Nat} (wrong : Bool) : RuleOk x (sideR p i wrong) ↔ (Brk p x i ↔ wrong = true) := by
  have e1 : ix (i : Int) = i + 2 := by unfold ix; omega
  have e2 : ix (-1) = 1 := rfl
  unfold RuleOk sideR Brk
  cases hl : (gt p.bathers i).lady <;> cases wrong <;> simp [e1, e2]
def brkTo (p : Post) (x : Nat → Int) : Nat → Nat → Int
  | _, 0 => 0
  | i, rem + 1 => (if Brk p x i then 1 else 0) + brkTo p x (i + 1) rem
theorem sol_app {p : Post} {l : List Rule} {r : Rule} {x : Nat → Int} : Sol p (l ++ [r]) x ↔ Sol p l x ∧ RuleOk x r := by
  constructor
  · intro h
    refine ⟨⟨h.zero, h.place, fun i hi => ?_⟩, ?_⟩
    · have := h.rule i (by rw [List.length_append]; simp; omega)
      rwa [gt_append, if_pos hi] at this
    · have := h.rule l.length (by rw [List.length_append]; simp)
      rw [gt_append, if_neg (by omega), Nat.sub_self] at this
      exact this
  · rintro ⟨h1, h2⟩
    refine ⟨h1.zero, h1.place, fun i hi => ?_⟩
    rw [List.length_append] at hi
    rw [gt_append]
    split
    · rename_i h; exact h1.rule i h
    · have : i = l.length := by simp at hi; omega
      subst this
      rw [Nat.sub_self]; exact h2
theorem onL_iff {p : Post} : ∀ (rem : Nat) (l : List Rule) (i : Nat) (m v : Int), i + rem = p.bathers.length → RulesP p l → (v ∈ onL p rem l i m ↔ ∃ x, Sol p l x ∧ v = m + brkTo p x i rem) := by
  intro rem
  induction rem with
  | zero =>
    intro l i m v hi hl
    cases hok : farOk p l with
    | false =>
      rw [onL_no hok]
      constructor
      · intro h; cases h
      · rintro ⟨x, hx, _⟩
        have := (far_ok hl.in).2 ⟨x, hx⟩
        rw [hok] at this; cases this
    | true =>
      rw [onL_end hok]
      obtain ⟨x, hx⟩ := (far_ok hl.in).1 hok
      simp only [List.mem_singleton, brkTo, Int.add_zero]
      exact ⟨fun h => ⟨x, hx, h⟩, fun ⟨_, _, h⟩ => h⟩
  | succ rem ih =>
    intro l i m v hi hl
    cases hok : farOk p l with
    | false =>
      rw [onL_no hok]
      constructor
      · intro h; cases h
      · rintro ⟨x, hx, _⟩
        have := (far_ok hl.in).2 ⟨x, hx⟩
        rw [hok] at this; cases this
    | true =>
      have hin : ∀ b, RulesP p (l ++ [sideR p i b]) := fun b => hl.app (RulesP.one (sideR_in (by omega) b))
      rw [onL_step hok, List.mem_append, ih _ _ _ _ (by omega) (hin false), ih _ _ _ _ (by omega) (hin true)]
      constructor
      · rintro (⟨x, hx, rfl⟩ | ⟨x, hx, rfl⟩)
        · obtain ⟨h1, h2⟩ := sol_app.1 hx
          have hb : ¬ Brk p x i := fun h => by have := ((side_brk false).1 h2).1 h; cases this
          exact ⟨x, h1, by simp only [brkTo]; rw [if_neg hb]; omega⟩
        · obtain ⟨h1, h2⟩ := sol_app.1 hx
          have hb : Brk p x i := ((side_brk true).1 h2).2 rfl
          exact ⟨x, h1, by simp only [brkTo]; rw [if_pos hb]; omega⟩
      · rintro ⟨x, hx, rfl⟩
        by_cases hb : Brk p x i
        · exact .inr ⟨x, sol_app.2 ⟨hx, (side_brk true).2 ⟨fun _ => rfl, fun _ => hb⟩⟩, by simp only [brkTo]; rw [if_pos hb]; omega⟩
        · exact .inl ⟨x, sol_app.2 ⟨hx, (side_brk false).2 ⟨fun h => absurd h hb, fun h => by cases h⟩⟩, by simp only [brkTo]; rw [if_neg hb]; omega⟩
theorem onL_len (p : Post) : ∀ (rem : Nat) (l : List Rule) (i : Nat) (m : Int), (onL p rem l i m).length ≤ 2 ^ rem := by
  intro rem
  induction rem with
  | zero => intro l i m; simp only [onL]; split <;> simp
  | succ rem ih =>
    intro l i m
    simp only [onL]
    split
    · exact Nat.zero_le _
    · have h1 := ih (l ++ [sideR p i false]) (i + 1) m
      have h2 := ih (l ++ [sideR p i true]) (i + 1) (m + 1)
      rw [List.length_append, Nat.pow_succ]; omega
theorem brokeL_len {p : Post} (hv : postB p = true) : (brokeL p).length ≤ 32 := by
  have h1 := onL_len p p.bathers.length (allR p) 0 0
  have h2 : 2 ^ p.bathers.length ≤ 2 ^ 5 := Nat.pow_le_pow_right (by omega) (post_num hv).2.1
  unfold brokeL; omega
theorem brokeL_iff {p : Post} (hv : postB p = true) (v : Int) : v ∈ brokeL p ↔ ∃ x, Sol p (allR p) x ∧ v = brkTo p x 0 p.bathers.length := by
  unfold brokeL
  rw [onL_iff _ _ _ _ _ (by omega) (allR_in hv)]
  simp only [Int.zero_add]
theorem brokeL_pos {p : Post} (hv : postB p = true) (hok : okA p = true) : 0 < (brokeL p).length := by
  obtain ⟨x, hx⟩ := (far_ok (allR_in hv).in).1 hok
  exact List.length_pos_of_mem ((brokeL_iff hv _).2 ⟨x, hx, rfl⟩)
theorem any_take {l : List Int} {k : Nat} (hk : k < l.length) (f : Int → Bool) : (l.take (k + 1)).any f = ((l.take k).any f || f (gt l k)) := by
  rw [List.take_add_one, List.any_append, gt_of hk]; simp
theorem take_flat {l : List Int} {k : Nat} (hk : k < l.length) (g : Int → List Go.Value) : (l.take (k + 1)).flatMap g = (l.take k).flatMap g ++ g (gt l k) := by
  rw [List.take_add_one, List.flatMap_append, gt_of hk]; simp
def KeptOut (p : Post) : Int × Int := if toldE p true ≠ 0 then (0, toldE p true) else (gradeI ((brokeL p).any fun m => decide (m = 0)) ((brokeL p).any fun m => decide (0 < m)), 0)
def minTo (l : List Int) : Nat → Int
  | 0 => gt l 0
  | k + 1 => min (minTo l k) (gt l k)
def maxTo (l : List Int) : Nat → Int
  | 0 => gt l 0
  | k + 1 => max (maxTo l k) (gt l k)
theorem minTo_one (l : List Int) : minTo l 1 = gt l 0 := by simp [minTo]
theorem maxTo_one (l : List Int) : maxTo l 1 = gt l 0 := by simp [maxTo]
def FewestOut (p : Post) : Sp × Int := if toldE p true ≠ 0 then (⟨0, 0⟩, toldE p true) else (⟨minTo (brokeL p) (brokeL p).length, maxTo (brokeL p) (brokeL p).length⟩, 0)
end Go.Po
/- The sort of the sets, step for step, in plain words. -/
namespace Go.Po
open Go.W (gt gt_of)

def whl {σ : Type} (c : σ → Bool) (s : σ → Option σ) : Nat → σ → Option σ
  | 0, x => if c x then none else some x
  | n + 1, x => if c x then (s x).bind (whl c s n) else some x
theorem whl_true {σ : Type} {c : σ → Bool} {s : σ → Option σ} {n : Nat} {x r : σ} (h : whl c s n x = some r) (hc : c x = true) : ∃ m y, n = m + 1 ∧ s x = some y ∧ whl c s m y = some r := by
  cases n with
  | zero => simp [whl, hc] at h
  | succ m =>
    simp only [whl, hc, if_true] at h
    cases hs : s x with
    | none => rw [hs] at h; cases h
    | some y => rw [hs] at h; exact ⟨m, y, rfl, rfl, h⟩
theorem whl_false {σ : Type} {c : σ → Bool} {s : σ → Option σ} {n : Nat} {x r : σ} (h : whl c s n x = some r) (hc : c x = false) : r = x := by
  cases n <;> simp [whl, hc] at h <;> exact h.symm

/-- how many bits -/
def pop (n : Nat) : Nat := n % 2 + n / 2 % 2 + n / 4 % 2 + n / 8 % 2 + n / 16 % 2 + n / 32 % 2 + n / 64 % 2 + n / 128 % 2
/-- is the element at i before the one at j? -/
def lessAt (l : List Nat) (i j : Nat) : Option Bool := if i < l.length ∧ j < l.length ∧ gt l i < 256 ∧ gt l j < 256 then some (decide (pop (gt l i) < pop (gt l j))) else none
def swp (l : List Nat) (i j : Nat) : Option (List Nat) := if i < l.length ∧ j < l.length then some ((l.set i (gt l j)).set j (gt l i)) else none

def F := 400
/-- insertion: the element at j sinks -/
def insIn (a : Nat) (x : Nat × List Nat) : Option (Nat × List Nat) :=
  whl (fun x => decide (a < x.1) && (lessAt x.2 x.1 (x.1 - 1)).getD false) (fun x => (swp x.2 x.1 (x.1 - 1)).map fun l => (x.1 - 1, l)) F x
def insS (a b : Nat) (l : List Nat) : Option (List Nat) :=
  (whl (fun x : Nat × List Nat => decide (x.1 < b)) (fun x => (insIn a (x.1, x.2)).map fun y => (x.1 + 1, y.2)) F (a + 1, l)).map (·.2)
def swapR (a b n : Nat) (l : List Nat) : Option (List Nat) :=
  (whl (fun x : Nat × List Nat => decide (x.1 < n)) (fun x => (swp x.2 (a + x.1) (b + x.1)).map fun l => (x.1 + 1, l)) F (0, l)).map (·.2)
def rotS (a m b : Nat) (l : List Nat) : Option (List Nat) :=
  if a ≤ m ∧ m ≤ b then
    (whl (fun x : Nat × Nat × List Nat => decide (x.1 ≠ x.2.1)) (fun x => if x.1 ≤ m then (if x.2.1 < x.1 then (swapR (m - x.1) m x.2.1 x.2.2).map fun l => (x.1 - x.2.1, x.2.1, l) else (swapR (m - x.1) (m + x.2.1 - x.1) x.1 x.2.2).map fun l => (x.1, x.2.1 - x.1, l)) else none) F (m - a, b - m, l)).bind
      fun x => if x.1 ≤ m then swapR (m - x.1) m x.1 x.2.2 else none
  else none
/-- where the halving ends: p says of a place whether to go on behind it -/
def halve (p : Nat → Option Bool) (i j : Nat) : Option Nat :=
  (whl (fun x : Nat × Nat => decide (x.1 < x.2)) (fun x => (p ((x.1 + x.2) / 2)).map fun b => if b then ((x.1 + x.2) / 2 + 1, x.2) else (x.1, (x.1 + x.2) / 2)) F (i, j)).map (·.1)
def upS (k i : Nat) (l : List Nat) : Option (List Nat) :=
  (whl (fun x : Nat × List Nat => decide ((x.1 : Int) < (i : Int) - 1)) (fun x => (swp x.2 x.1 (x.1 + 1)).map fun l => (x.1 + 1, l)) F (k, l)).map (·.2)
def downS (k i : Nat) (l : List Nat) : Option (List Nat) :=
  (whl (fun x : Nat × List Nat => decide (i < x.1)) (fun x => (swp x.2 x.1 (x.1 - 1)).map fun l => (x.1 - 1, l)) F (k, l)).map (·.2)
def symM : Nat → Nat → Nat → Nat → List Nat → Option (List Nat)
  | 0, _, _, _, _ => none
  | f + 1, a, m, b, l =>
    if ¬ (a < m ∧ m < b ∧ b ≤ 1000) then none
    else if m - a = 1 then (halve (fun h => lessAt l h a) m b).bind fun i => upS a i l
    else if b - m = 1 then (halve (fun h => (lessAt l m h).map (!·)) a m).bind fun i => downS m i l
    else
      let mid := (a + b) / 2
      let n := mid + m
      (if mid < m then (if b ≤ n then some (n - b, mid) else none) else some (a, m)).bind fun sr =>
      (halve (fun c => if c + 1 ≤ n then (lessAt l (n - 1 - c) c).map (!·) else none) sr.1 sr.2).bind fun st =>
      if n < st then none else
      (if st < m ∧ m < n - st then rotS st m (n - st) l else some l).bind fun l =>
      (if a < st ∧ st < mid then symM f a st mid l else some l).bind fun l =>
      (if mid < n - st ∧ n - st < b then symM f mid (n - st) b l else some l)
/-- the blocks of 20, each sorted -/
def blkS (l : List Nat) : Option (List Nat) :=
  (whl (fun x : Nat × List Nat => decide (x.1 + 20 ≤ l.length)) (fun x => (insS x.1 (x.1 + 20) x.2).map fun y => (x.1 + 20, y)) F (0, l)).bind fun x => insS x.1 l.length x.2
/-- neighbours of length s merged -/
def mrgS (s : Nat) (l : List Nat) : Option (List Nat) :=
  (whl (fun x : Nat × List Nat => decide (x.1 + 2 * s ≤ l.length)) (fun x => (symM 12 x.1 (x.1 + s) (x.1 + 2 * s) x.2).map fun y => (x.1 + 2 * s, y)) F (0, l)).bind fun x =>
    if x.1 + s < l.length then symM 12 x.1 (x.1 + s) l.length x.2 else some x.2
def sortS (l : List Nat) : Option (List Nat) :=
  (blkS l).bind fun l => (whl (fun x : Nat × List Nat => decide (x.1 < x.2.length)) (fun x => (mrgS x.1 x.2).map fun y => (2 * x.1, y)) F (20, l)).map (·.2)
def setsL (k : Nat) : List Nat := (List.range 9).flatMap fun c => (List.range (2 ^ k)).filter fun x => decide (pop x = c)
end Go.Po
