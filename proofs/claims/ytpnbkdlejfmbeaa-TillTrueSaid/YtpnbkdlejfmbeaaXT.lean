import Derived.Test.YtpnbkdlejfmbeaaXV
set_option linter.unusedSimpArgs false
set_option linter.unusedVariables false
set_option linter.all false
/- Tickets in plain words: which are valid, all truths of them, in the order of the office; the truths are the solutions. -/
namespace Go.Ti
open Go.W (gt gt_of)

structure Sp where
  lo : Int
  hi : Int
deriving DecidableEq, Inhabited
structure Tick where
  bought : Sp
  hut : Int
  door : Sp
deriving DecidableEq, Inhabited
structure Tks where
  huts : Int
  l : List Tick
structure Ent where
  ticket : Int
  kind : Int
  pence : Int
deriving DecidableEq, Inhabited
structure Till where
  tk : Tks
  price : Int
  fine : Int
  wait : Int

theorem gt_mem {α : Type} [Inhabited α] {l : List α} {i : Nat} (h : i < l.length) : gt l i ∈ l := by
  have : gt l i = l[i] := by simp [gt, List.getD, h]
  rw [this]; exact List.getElem_mem h
theorem gt_out {α : Type} [Inhabited α] {l : List α} {i : Nat} (h : l.length ≤ i) : gt l i = default := by
  simp [gt, List.getD, h]
theorem mem_gt {α : Type} [Inhabited α] {l : List α} {x : α} (h : x ∈ l) : ∃ i, i < l.length ∧ gt l i = x := by
  obtain ⟨i, hi, rfl⟩ := List.getElem_of_mem h
  exact ⟨i, hi, by simp [gt, List.getD, hi]⟩
theorem all_iff {α : Type} [Inhabited α] {l : List α} {p : α → Bool} : l.all p = true ↔ ∀ i, i < l.length → p (gt l i) = true := by
  rw [List.all_eq_true]
  constructor
  · intro h i hi; exact h _ (gt_mem hi)
  · intro h x hx
    obtain ⟨i, hi, rfl⟩ := mem_gt hx
    exact h i hi
theorem ext_round {p : Nat → Prop} {k : Nat} (h : ∀ i, i < k → p i) (hk : p k) : ∀ i, i < k + 1 → p i := fun i hi => by
  rcases Nat.lt_or_ge i k with h' | h'
  · exact h i h'
  · have : i = k := by omega
    rw [this]; exact hk
theorem gt_set {α : Type} [Inhabited α] (l : List α) (i j : Nat) (x : α) (hi : i < l.length) : gt (l.set i x) j = if i = j then x else gt l j := by
  simp only [gt, List.getD, List.getElem?_set]
  split
  · rename_i e; subst e; simp [hi]
  · rfl
theorem gt_app_left {α : Type} [Inhabited α] {l m : List α} {i : Nat} (h : i < l.length) : gt (l ++ m) i = gt l i := by
  simp [gt, List.getD, List.getElem?_append_left h]
theorem gt_range {n i : Nat} (h : i < n) : gt (List.range n) i = i := by
  simp [gt, List.getD, h]

theorem nodup_inj {l : List Nat} (h : l.Nodup) {i j : Nat} (hi : i < l.length) (hj : j < l.length) (e : gt l i = gt l j) : i = j := by
  have h2 := List.pairwise_iff_getElem.1 h
  have a1 : gt l i = l[i] := by simp [gt, List.getD, hi]
  have a2 : gt l j = l[j] := by simp [gt, List.getD, hj]
  rw [a1, a2] at e
  rcases Nat.lt_trichotomy i j with h3 | h3 | h3
  · exact absurd e (h2 i j hi hj h3)
  · exact h3
  · exact absurd e.symm (h2 j i hj hi h3)
/-! ### validity -/
def inB (n lo hi : Int) : Bool := decide (lo ≤ n ∧ n ≤ hi)
def spanT (s : Sp) : Bool := decide (0 ≤ s.lo ∧ s.lo ≤ s.hi ∧ s.hi ≤ 240 ∧ s.hi - s.lo ≤ 2)
def hutT (T : Tks) (n : Int) : Bool := decide (0 ≤ n ∧ n ≤ T.huts - 1)
def isT (T : Tks) (n : Int) : Bool := decide (0 ≤ n ∧ n ≤ (T.l.length : Int) - 1)
def tickB (T : Tks) (x : Tick) : Bool := hutT T x.hut && spanT x.bought && spanT x.door
def tksB (T : Tks) : Bool := decide (1 ≤ T.huts ∧ T.huts ≤ 4) && decide (T.l.length ≤ 5) && T.l.all (tickB T)
theorem tksB_iff (T : Tks) : tksB T = true ↔ (1 ≤ T.huts ∧ T.huts ≤ 4) ∧ T.l.length ≤ 5 ∧ ∀ i, i < T.l.length → tickB T (gt T.l i) = true := by
  simp only [tksB, Bool.and_eq_true, decide_eq_true_eq, all_iff, and_assoc]
theorem tks_num {T : Tks} (h : tksB T = true) : (1 ≤ T.huts ∧ T.huts ≤ 4) ∧ T.l.length ≤ 5 ∧ ∀ i, i < T.l.length →
    (0 ≤ (gt T.l i).hut ∧ (gt T.l i).hut < T.huts) ∧ (0 ≤ (gt T.l i).bought.lo ∧ (gt T.l i).bought.lo ≤ (gt T.l i).bought.hi ∧ (gt T.l i).bought.hi ≤ 240 ∧ (gt T.l i).bought.hi - (gt T.l i).bought.lo ≤ 2) ∧
    (0 ≤ (gt T.l i).door.lo ∧ (gt T.l i).door.lo ≤ (gt T.l i).door.hi ∧ (gt T.l i).door.hi ≤ 240 ∧ (gt T.l i).door.hi - (gt T.l i).door.lo ≤ 2) := by
  obtain ⟨h1, h2, h3⟩ := (tksB_iff T).1 h
  refine ⟨h1, h2, fun i hi => ?_⟩
  have := h3 i hi
  simp only [tickB, hutT, spanT, Bool.and_eq_true, decide_eq_true_eq] at this
  obtain ⟨⟨a, b⟩, c⟩ := this
  exact ⟨by omega, b, c⟩

/-! ### the order of the office: an insertion that is stable -/
/-- the element at j sinks while it is less than the one ahead of it -/
def sink (less : Nat → Nat → Bool) : Nat → List Nat → List Nat
  | 0, l => l
  | j + 1, l => if less (gt l (j + 1)) (gt l j) then sink less j ((l.set (j + 1) (gt l j)).set j (gt l (j + 1))) else l
/-- the elements up to k are sunk, one after the other -/
def insT (less : Nat → Nat → Bool) : Nat → List Nat → List Nat
  | 0, l => l
  | k + 1, l => sink less (k + 1) (insT less k l)
theorem sink_len (less : Nat → Nat → Bool) : ∀ j l, (sink less j l).length = l.length := by
  intro j
  induction j with
  | zero => intro l; rfl
  | succ j ih =>
    intro l
    unfold sink
    split
    · rw [ih]; simp
    · rfl
theorem insT_len (less : Nat → Nat → Bool) : ∀ k l, (insT less k l).length = l.length := by
  intro k
  induction k with
  | zero => intro l; rfl
  | succ k ih => intro l; unfold insT; rw [sink_len, ih]
def swp (l : List Nat) (i j : Nat) : List Nat := (l.set i (gt l j)).set j (gt l i)
theorem gt_swp {l : List Nat} {i j : Nat} (hi : i < l.length) (hj : j < l.length) (k : Nat) : gt (swp l i j) k = if k = j then gt l i else if k = i then gt l j else gt l k := by
  unfold swp
  rw [gt_set _ _ _ _ (by simpa using hj), gt_set _ _ _ _ hi]
  by_cases h1 : j = k
  · rw [if_pos h1, if_pos h1.symm]
  · rw [if_neg h1]
    by_cases h2 : i = k
    · rw [if_pos h2, if_neg (fun h => h1 h.symm), if_pos h2.symm]
    · rw [if_neg h2, if_neg (fun h => h1 h.symm), if_neg (fun h => h2 h.symm)]
/-- what holds while the element at j sinks through the first k + 1 -/
theorem sink_law {lt : Nat → Nat → Prop} {less : Nat → Nat → Bool} (htr : ∀ a b c, lt a b → lt b c → lt a c) (k : Nat) : ∀ j (l : List Nat), j ≤ k → k < l.length → l.Nodup → (∀ i, i < l.length → gt l i < l.length) →
    (∀ a b, a < b → b ≤ k → a ≠ j → b ≠ j → lt (gt l a) (gt l b)) → (∀ b, j < b → b ≤ k → lt (gt l j) (gt l b)) →
    (∀ a, a < j → (less (gt l j) (gt l a) = true → lt (gt l j) (gt l a)) ∧ (less (gt l j) (gt l a) = false → lt (gt l a) (gt l j))) →
    (sink less j l).Perm l ∧ (∀ a b, a < b → b ≤ k → lt (gt (sink less j l) a) (gt (sink less j l) b)) ∧ (∀ i, k < i → gt (sink less j l) i = gt l i) := by
  intro j
  induction j with
  | zero =>
    intro l hj hk hnd hin hs hx hl
    refine ⟨List.Perm.refl _, fun a b hab hb => ?_, fun i _ => rfl⟩
    show lt (gt l a) (gt l b)
    by_cases h0 : a = 0
    · subst h0; exact hx b hab hb
    · exact hs a b hab hb h0 (by omega)
  | succ j ih =>
    intro l hj hk hnd hin hs hx hl
    unfold sink
    obtain ⟨hl1, hl2⟩ := hl j (by omega)
    by_cases hc : less (gt l (j + 1)) (gt l j) = true
    · rw [if_pos hc]
      have hlt := hl1 hc
      have e : (l.set (j + 1) (gt l j)).set j (gt l (j + 1)) = swp l (j + 1) j := rfl
      rw [e]
      have hg := gt_swp (l := l) (i := j + 1) (j := j) (by omega) (by omega)
      have hlen : (swp l (j + 1) j).length = l.length := by simp [swp]
      have hperm : (swp l (j + 1) j).Perm l := by
        have h1 : gt l j = l[j]'(by omega) := by simp [gt, List.getD, show j < l.length by omega]
        have h2 : gt l (j + 1) = l[j + 1]'(by omega) := by simp [gt, List.getD, show j + 1 < l.length by omega]
        unfold swp
        rw [h1, h2]
        exact List.set_set_perm (by omega) (by omega)
      have hgj : gt (swp l (j + 1) j) j = gt l (j + 1) := by rw [hg, if_pos rfl]
      obtain ⟨h1, h2, h3⟩ := ih (swp l (j + 1) j) (by omega) (by omega) (hperm.nodup_iff.2 hnd)
        (fun i hi => by
          rw [hlen] at hi ⊢
          rw [hg]
          split
          · exact hin _ (by omega)
          · split
            · exact hin _ (by omega)
            · exact hin _ hi)
        (fun a b hab hb ha hbj => by
          rw [hg, hg, if_neg ha, if_neg hbj]
          by_cases e1 : a = j + 1
          · rw [if_pos e1, if_neg (by omega)]
            exact hs j b (by omega) hb (by omega) (by omega)
          · rw [if_neg e1]
            by_cases e2 : b = j + 1
            · rw [if_pos e2]
              exact hs a j (by omega) (by omega) (by omega) (by omega)
            · rw [if_neg e2]
              exact hs a b hab hb e1 e2)
        (fun b hjb hb => by
          rw [hgj, hg, if_neg (by omega)]
          by_cases e2 : b = j + 1
          · rw [if_pos e2]; exact hlt
          · rw [if_neg e2]
            exact hx b (by omega) hb)
        (fun a ha => by
          rw [hgj, hg, if_neg (by omega), if_neg (by omega)]
          exact hl a (by omega))
      refine ⟨h1.trans hperm, h2, fun i hi => ?_⟩
      rw [h3 i hi, hg, if_neg (by omega), if_neg (by omega)]
    · rw [if_neg hc]
      have hlt := hl2 (by simpa using hc)
      refine ⟨List.Perm.refl _, fun a b hab hb => ?_, fun i _ => rfl⟩
      by_cases e1 : a = j + 1
      · subst e1; exact hx b hab hb
      · by_cases e2 : b = j + 1
        · subst e2
          by_cases e3 : a = j
          · subst e3; exact hlt
          · exact htr _ _ _ (hs a j (by omega) (by omega) (by omega) (by omega)) hlt
        · exact hs a b hab hb e1 e2
/-- sorted by a number, those with the same one as they were -/
def lexB (key : Nat → Int) (a b : Nat) : Prop := key a < key b ∨ (key a = key b ∧ a < b)
theorem lexB_tr {key : Nat → Int} : ∀ a b c, lexB key a b → lexB key b c → lexB key a c := by
  intro a b c h1 h2
  unfold lexB at *
  omega
def byKey (key : Nat → Int) (a b : Nat) : Bool := decide (key a < key b)
theorem insT_law (key : Nat → Int) (n : Nat) : ∀ k, k < n → (insT (byKey key) k (List.range n)).Perm (List.range n) ∧
    (∀ a b, a < b → b ≤ k → lexB key (gt (insT (byKey key) k (List.range n)) a) (gt (insT (byKey key) k (List.range n)) b)) ∧ (∀ i, k < i → gt (insT (byKey key) k (List.range n)) i = gt (List.range n) i) ∧
    (∀ i, i ≤ k → gt (insT (byKey key) k (List.range n)) i ≤ k) := by
  intro k
  induction k with
  | zero =>
    intro hn
    refine ⟨List.Perm.refl _, fun a b hab hb => by omega, fun i _ => rfl, fun i hi => ?_⟩
    obtain rfl : i = 0 := by omega
    show gt (List.range n) 0 ≤ 0
    rw [gt_range hn]; exact Nat.le_refl _
  | succ k ih =>
    intro hn
    obtain ⟨h1, h2, h3, h4⟩ := ih (by omega)
    have hlen := h1.length_eq
    rw [List.length_range] at hlen
    have hk1 : gt (insT (byKey key) k (List.range n)) (k + 1) = k + 1 := by rw [h3 _ (by omega), gt_range hn]
    have hnd : (insT (byKey key) k (List.range n)).Nodup := h1.nodup_iff.2 List.nodup_range
    have hin : ∀ i, i < (insT (byKey key) k (List.range n)).length → gt (insT (byKey key) k (List.range n)) i < (insT (byKey key) k (List.range n)).length := fun i hi => by
      have := h1.mem_iff.1 (gt_mem hi)
      rw [hlen]; exact List.mem_range.1 this
    obtain ⟨g1, g2, g3⟩ := sink_law (lt := lexB key) (less := byKey key) lexB_tr (k + 1) (k + 1) (insT (byKey key) k (List.range n)) (Nat.le_refl _) (by rw [hlen]; exact hn) hnd hin
      (fun a b hab hb ha hbk => h2 a b hab (by omega)) (fun b hb hb2 => by omega)
      (fun a ha => by
        have h5 := h4 a (by omega)
        rw [hk1]
        refine ⟨fun h => .inl (of_decide_eq_true h), fun h => ?_⟩
        have h6 : ¬ key (k + 1) < key (gt (insT (byKey key) k (List.range n)) a) := of_decide_eq_false h
        unfold lexB
        omega)
    refine ⟨g1.trans h1, g2, fun i hi => by show gt (sink _ _ _) i = _; rw [g3 i hi, h3 i (by omega)], fun i hi => ?_⟩
    show gt (sink (byKey key) (k + 1) (insT (byKey key) k (List.range n))) i ≤ k + 1
    -- the rest stands still: so what is ahead of it is from ahead of it
    rcases Nat.lt_or_ge (k + 1) (gt (sink (byKey key) (k + 1) (insT (byKey key) k (List.range n))) i) with hlt | hge
    · exfalso
      have hi2 : i < (sink (byKey key) (k + 1) (insT (byKey key) k (List.range n))).length := by rw [sink_len, hlen]; omega
      have hm := (g1.trans h1).mem_iff.1 (gt_mem hi2)
      have hmn := List.mem_range.1 hm
      have e1 : gt (sink (byKey key) (k + 1) (insT (byKey key) k (List.range n))) (gt (sink (byKey key) (k + 1) (insT (byKey key) k (List.range n))) i) = gt (sink (byKey key) (k + 1) (insT (byKey key) k (List.range n))) i := by
        rw [g3 _ hlt, h3 _ (by omega), gt_range hmn]
      have hnd2 := (g1.trans h1).nodup_iff.2 List.nodup_range
      have hj2 : gt (sink (byKey key) (k + 1) (insT (byKey key) k (List.range n))) i < (sink (byKey key) (k + 1) (insT (byKey key) k (List.range n))).length := by rw [sink_len, hlen]; exact hmn
      have := nodup_inj hnd2 hj2 hi2 e1
      omega
    · exact hge
def sortT (key : Nat → Int) (n : Nat) : List Nat := insT (byKey key) (n - 1) (List.range n)
theorem sortT_perm (key : Nat → Int) (n : Nat) : (sortT key n).Perm (List.range n) := by
  unfold sortT
  cases n with
  | zero => exact List.Perm.refl _
  | succ n => exact (insT_law key (n + 1) n (by omega)).1
theorem sortT_lex (key : Nat → Int) (n : Nat) {a b : Nat} (hab : a < b) (hb : b < n) : lexB key (gt (sortT key n) a) (gt (sortT key n) b) := by
  unfold sortT
  exact (insT_law key n (n - 1) (by omega)).2.1 a b hab (by omega)
theorem sortT_len (key : Nat → Int) (n : Nat) : (sortT key n).length = n := by rw [(sortT_perm key n).length_eq, List.length_range]
theorem sortT_lt (key : Nat → Int) (n : Nat) {i : Nat} (hi : i < n) : gt (sortT key n) i < n := by
  have := (sortT_perm key n).mem_iff.1 (gt_mem (by rw [sortT_len]; exact hi))
  exact List.mem_range.1 this
theorem sortT_inj (key : Nat → Int) (n : Nat) {i j : Nat} (hi : i < n) (hj : j < n) (h : gt (sortT key n) i = gt (sortT key n) j) : i = j := by
  have hnd := (sortT_perm key n).nodup_iff.2 List.nodup_range
  have hi2 : i < (sortT key n).length := by rw [sortT_len]; exact hi
  have hj2 : j < (sortT key n).length := by rw [sortT_len]; exact hj
  exact nodup_inj hnd hi2 hj2 h
theorem sortT_onto (key : Nat → Int) (n : Nat) {i : Nat} (hi : i < n) : ∃ k, k < n ∧ gt (sortT key n) k = i := by
  obtain ⟨k, hk, h⟩ := mem_gt ((sortT_perm key n).mem_iff.2 (List.mem_range.2 hi))
  exact ⟨k, by rw [sortT_len] at hk; exact hk, h⟩
end Go.Ti
/- The truths of tickets: a list in the order of the office, and what is in it. -/
namespace Go.Ti
open Go.W (gt gt_of)
abbrev Pr := Int × Int
abbrev Tru := Nat → Pr
def zeroT : Tru := fun _ => (0, 0)
def upd (t : Tru) (i : Nat) (p : Pr) : Tru := fun j => if j = i then p else t j
theorem upd_same (t : Tru) (i : Nat) (p : Pr) : upd t i p i = p := by simp [upd]
theorem upd_other (t : Tru) {i j : Nat} (p : Pr) (h : j ≠ i) : upd t i p j = t j := by simp [upd, h]
def rng (lo hi : Int) : List Int := (List.range (hi - lo + 1).toNat).map fun i : Nat => lo + (i : Int)
theorem mem_rng {lo hi x : Int} : x ∈ rng lo hi ↔ lo ≤ x ∧ x ≤ hi := by
  simp only [rng, List.mem_map, List.mem_range]
  constructor
  · rintro ⟨i, hi, rfl⟩; omega
  · rintro ⟨h1, h2⟩; exact ⟨(x - lo).toNat, by omega, by omega⟩
def doorsFrom (x : Tick) (a : Int) : List Pr := (rng (max a x.door.lo) x.door.hi).map fun b => (a, b)
def pairsL (x : Tick) : List Pr := (rng x.bought.lo x.bought.hi).flatMap (doorsFrom x)
def pairP (x : Tick) (p : Pr) : Bool := decide ((x.bought.lo ≤ p.1 ∧ p.1 ≤ x.bought.hi) ∧ (x.door.lo ≤ p.2 ∧ p.2 ≤ x.door.hi) ∧ p.1 ≤ p.2)
theorem pairP_iff {x : Tick} {p : Pr} : pairP x p = true ↔ (x.bought.lo ≤ p.1 ∧ p.1 ≤ x.bought.hi) ∧ (x.door.lo ≤ p.2 ∧ p.2 ≤ x.door.hi) ∧ p.1 ≤ p.2 := by simp [pairP]
theorem mem_pairs {x : Tick} {p : Pr} : p ∈ pairsL x ↔ pairP x p = true := by
  obtain ⟨a, b⟩ := p
  rw [pairP_iff]
  simp only [pairsL, doorsFrom, List.mem_flatMap, List.mem_map, mem_rng, Prod.mk.injEq]
  constructor
  · rintro ⟨a', h1, b', h2, rfl, rfl⟩; omega
  · rintro ⟨h1, h2, h3⟩; exact ⟨a, h1, b, by omega, rfl, rfl⟩
/-- two doors are near one another -/
def nearB (a b : Int) : Bool := decide (1 - 30 ≤ a - b ∧ a - b ≤ 30 - 1)
theorem nearB_comm (a b : Int) : nearB a b = nearB b a := by
  unfold nearB; congr 1; apply propext; omega
/-- do two of the same hut clash? -/
def clashB (T : Tks) (t : Tru) (o i : Nat) (p : Pr) : Bool := decide ((gt T.l o).hut = (gt T.l i).hut) && nearB (t o).2 p.2
/-- none of the first ones in the order clashes -/
def freeO (T : Tks) (ord : List Nat) (t : Tru) (at_ : Nat) (i : Nat) (p : Pr) : Bool := (List.range at_).all fun j => !clashB T t (gt ord j) i p
def truL (T : Tks) (ord : List Nat) : Nat → Tru → Nat → List Tru
  | 0, t, _ => [t]
  | rem + 1, t, at_ => (pairsL (gt T.l (gt ord at_))).flatMap fun p => if freeO T ord t at_ (gt ord at_) p then truL T ord rem (upd t (gt ord at_) p) (at_ + 1) else []
def hutKey (T : Tks) (i : Nat) : Int := (gt T.l i).hut
def ordT (T : Tks) : List Nat := sortT (hutKey T) T.l.length
def allT (T : Tks) : List Tru := truL T (ordT T) T.l.length zeroT 0

/-- what is so in each truth -/
structure Sol (T : Tks) (x : Tru) : Prop where
  pair : ∀ i, i < T.l.length → pairP (gt T.l i) (x i) = true
  apart : ∀ i j, i < T.l.length → j < T.l.length → i ≠ j → (gt T.l i).hut = (gt T.l j).hut → nearB (x i).2 (x j).2 = false
  rest : ∀ i, T.l.length ≤ i → x i = (0, 0)
theorem clashB_false {T : Tks} {t : Tru} {o i : Nat} {p : Pr} : clashB T t o i p = false ↔ ((gt T.l o).hut = (gt T.l i).hut → nearB (t o).2 p.2 = false) := by
  unfold clashB
  by_cases h : (gt T.l o).hut = (gt T.l i).hut <;> simp [h]
theorem freeO_iff {T : Tks} {ord : List Nat} {t : Tru} {at_ i : Nat} {p : Pr} : freeO T ord t at_ i p = true ↔ ∀ j, j < at_ → (gt T.l (gt ord j)).hut = (gt T.l i).hut → nearB (t (gt ord j)).2 p.2 = false := by
  unfold freeO
  simp only [List.all_eq_true, List.mem_range, Bool.not_eq_true', clashB_false]
theorem truL_mem (T : Tks) (ord : List Nat) (n : Nat) (hinj : ∀ i j, i < n → j < n → gt ord i = gt ord j → i = j) : ∀ rem t at_ x, at_ + rem = n → (x ∈ truL T ord rem t at_ ↔
    (∀ k, at_ ≤ k → k < n → pairP (gt T.l (gt ord k)) (x (gt ord k)) = true ∧ ∀ j, j < k → (gt T.l (gt ord j)).hut = (gt T.l (gt ord k)).hut → nearB (x (gt ord j)).2 (x (gt ord k)).2 = false) ∧
    ∀ i, (∀ k, at_ ≤ k → k < n → gt ord k ≠ i) → x i = t i) := by
  intro rem
  induction rem with
  | zero =>
    intro t at_ x hat
    simp only [truL, List.mem_singleton]
    constructor
    · rintro rfl
      exact ⟨fun k h1 h2 => by omega, fun i _ => rfl⟩
    · rintro ⟨_, h⟩
      funext i
      exact h i fun k h1 h2 => by omega
  | succ rem ih =>
    intro t at_ x hat
    simp only [truL, List.mem_flatMap]
    constructor
    · rintro ⟨p, hp, hx⟩
      by_cases hf : freeO T ord t at_ (gt ord at_) p = true
      · rw [if_pos hf] at hx
        obtain ⟨h1, h2⟩ := (ih _ _ _ (by omega)).1 hx
        have hown : x (gt ord at_) = p := by
          rw [h2 (gt ord at_) (fun k hk1 hk2 e => by have := hinj _ _ hk2 (by omega) e; omega), upd_same]
        have hold : ∀ j, j < at_ → x (gt ord j) = t (gt ord j) := fun j hj => by
          rw [h2 (gt ord j) (fun k hk1 hk2 e => by have := hinj _ _ hk2 (by omega) e; omega), upd_other]
          intro e
          have := hinj _ _ (by omega) (by omega) e
          omega
        refine ⟨fun k hk1 hk2 => ?_, fun i hi => ?_⟩
        · by_cases e : k = at_
          · subst e
            rw [hown]
            refine ⟨mem_pairs.1 hp, fun j hj hh => ?_⟩
            rw [hold j hj]
            exact freeO_iff.1 hf j hj hh
          · exact h1 k (by omega) hk2
        · rw [h2 i (fun k hk1 hk2 => hi k (by omega) hk2), upd_other]
          exact fun e => hi at_ (Nat.le_refl _) (by omega) e.symm
      · rw [if_neg hf] at hx; cases hx
    · rintro ⟨h1, h2⟩
      obtain ⟨hp, hf⟩ := h1 at_ (Nat.le_refl _) (by omega)
      have hold : ∀ j, j < at_ → x (gt ord j) = t (gt ord j) := fun j hj => h2 _ (fun k hk1 hk2 e => by have := hinj _ _ hk2 (by omega) e; omega)
      refine ⟨x (gt ord at_), mem_pairs.2 hp, ?_⟩
      rw [if_pos (freeO_iff.2 fun j hj hh => by rw [← hold j hj]; exact hf j hj hh)]
      refine (ih _ _ _ (by omega)).2 ⟨fun k hk1 hk2 => h1 k (by omega) hk2, fun i hi => ?_⟩
      by_cases e : i = gt ord at_
      · rw [e, upd_same]
      · rw [upd_other _ _ e]
        refine h2 i fun k hk1 hk2 => ?_
        by_cases e2 : k = at_
        · subst e2; exact fun e3 => e e3.symm
        · exact hi k (by omega) hk2
theorem sol_of {T : Tks} {ord : List Nat} (hlt : ∀ i, i < T.l.length → gt ord i < T.l.length) (hinj : ∀ i j, i < T.l.length → j < T.l.length → gt ord i = gt ord j → i = j) (honto : ∀ i, i < T.l.length → ∃ k, k < T.l.length ∧ gt ord k = i) {x : Tru} : x ∈ truL T ord T.l.length zeroT 0 ↔ Sol T x := by
  rw [truL_mem T ord T.l.length hinj _ _ _ _ (Nat.zero_add _)]
  constructor
  · rintro ⟨h1, h2⟩
    refine ⟨fun i hi => ?_, fun i j hi hj hij hh => ?_, fun i hi => ?_⟩
    · obtain ⟨k, hk, rfl⟩ := honto i hi
      exact (h1 k (Nat.zero_le _) hk).1
    · obtain ⟨k, hk, rfl⟩ := honto i hi
      obtain ⟨m, hm, rfl⟩ := honto j hj
      rcases Nat.lt_trichotomy k m with h | h | h
      · exact (h1 m (Nat.zero_le _) hm).2 k h hh
      · exact absurd (by rw [h]) hij
      · rw [nearB_comm]; exact (h1 k (Nat.zero_le _) hk).2 m h hh.symm
    · rw [h2 i fun k _ hk e => by have := hlt k hk; omega]; rfl
  · intro h
    refine ⟨fun k _ hk => ⟨h.pair _ (hlt k hk), fun j hj hh => h.apart _ _ (hlt j (by omega)) (hlt k hk) (fun e => by have := hinj _ _ (by omega) hk e; omega) hh⟩, fun i hi => ?_⟩
    rcases Nat.lt_or_ge i T.l.length with h1 | h1
    · obtain ⟨k, hk, e⟩ := honto i h1
      exact absurd e (hi k (Nat.zero_le _) hk)
    · exact h.rest i h1
theorem mem_allT {T : Tks} {x : Tru} : x ∈ allT T ↔ Sol T x := by
  unfold allT ordT
  exact sol_of (fun i hi => sortT_lt _ _ hi) (fun i j hi hj => sortT_inj _ _ hi hj) (fun i hi => sortT_onto _ _ hi)
/-! ### what is told of tickets -/
def befT (t : Tru) (a b : Nat) : Bool := decide ((t a).1 < (t b).1 ∨ ((t a).1 = (t b).1 ∧ a < b))
def overT (t : Tru) (a b : Nat) : Bool := befT t b a && decide ((t a).2 < (t b).2)
def turnT (n : Nat) (t : Tru) (a : Nat) : Bool := !(List.range n).any (overT t a)
def gradeI (is not : Bool) : Int := if is && !not then 2 else if !is && not then 0 else 1
/-- the span of some numbers -/
def hullS (f : Tru → Int) : List Tru → Option Sp
  | [] => none
  | t :: l => match hullS f l with
    | none => some ⟨f t, f t⟩
    | some s => some ⟨min (f t) s.lo, max (f t) s.hi⟩
def oddT (n : Nat) (t : Tru) : Int := (((List.range n).filter fun i => !turnT n t i).length : Int)
def longT : Nat → Tru → Int
  | 0, _ => 0
  | n + 1, t => max (longT n t) ((t n).2 - (t n).1)
/-- the errors of tickets -/
def tksE (T : Tks) (is : Bool) : Int := if tksB T = false then 1 else if is = false then 2 else if (allT T).isEmpty then 10 else 0
end Go.Ti
/- The span of a number of all truths: a fold, and what it is. -/
namespace Go.Ti
open Go.W (gt gt_of)
abbrev Ms := Bool × Int × Int
/-- a measure sees a number -/
def seeS (s : Ms) (n : Int) : Ms := (true, if s.1 then min s.2.1 n else n, if s.1 then max s.2.2 n else n)
def foldS (g : Tru → Int) (l : List Tru) : Ms := l.foldl (fun s t => seeS s (g t)) (false, 0, 0)
def spanS (g : Tru → Int) (l : List Tru) : Sp := ⟨(foldS g l).2.1, (foldS g l).2.2⟩
theorem foldS_nil (g : Tru → Int) : foldS g [] = (false, 0, 0) := rfl
theorem foldS_take (g : Tru → Int) {l : List Tru} {k : Nat} (hk : k < l.length) : foldS g (l.take (k + 1)) = seeS (foldS g (l.take k)) (g (gt l k)) := by
  have hg : gt l k = l[k] := by simp [gt, List.getD, hk]
  unfold foldS
  rw [List.take_succ_eq_append_getElem hk, List.foldl_append, hg]
  rfl
structure IsSpan (g : Tru → Int) (l : List Tru) (s : Sp) : Prop where
  lo : ∃ t, t ∈ l ∧ g t = s.lo
  hi : ∃ t, t ∈ l ∧ g t = s.hi
  mem : ∀ t, t ∈ l → s.lo ≤ g t ∧ g t ≤ s.hi
theorem foldS_spec (g : Tru → Int) : ∀ (l l0 : List Tru) (s : Ms), (l0 = [] ∧ s.1 = false ∨ s.1 = true ∧ IsSpan g l0 ⟨s.2.1, s.2.2⟩) → l0 ++ l ≠ [] →
    IsSpan g (l0 ++ l) ⟨(l.foldl (fun s t => seeS s (g t)) s).2.1, (l.foldl (fun s t => seeS s (g t)) s).2.2⟩ := by
  intro l
  induction l with
  | nil =>
    intro l0 s h hne
    rw [List.append_nil] at hne ⊢
    rcases h with ⟨h, _⟩ | ⟨_, h⟩
    · exact absurd h hne
    · exact h
  | cons t l ih =>
    intro l0 s h hne
    have := ih (l0 ++ [t]) (seeS s (g t)) (.inr ⟨rfl, ?_⟩) (by simp)
    · rw [List.append_assoc] at this
      exact this
    · rcases h with ⟨rfl, h⟩ | ⟨h, hs⟩
      · refine ⟨⟨t, by simp, ?_⟩, ⟨t, by simp, ?_⟩, fun u hu => ?_⟩
        · simp [seeS, h]
        · simp [seeS, h]
        · have : u = t := by simpa using hu
          subst this
          simp [seeS, h]
      · obtain ⟨⟨a, ha, ha2⟩, ⟨b, hb, hb2⟩, hm⟩ := hs
        simp only at ha2 hb2 hm
        simp only [seeS, h, if_true]
        refine ⟨?_, ?_, fun u hu => ?_⟩
        · rcases Int.le_total s.2.1 (g t) with h1 | h1
          · exact ⟨a, by simp [ha], by simp only; omega⟩
          · exact ⟨t, by simp, by simp only; omega⟩
        · rcases Int.le_total s.2.2 (g t) with h1 | h1
          · exact ⟨t, by simp, by simp only; omega⟩
          · exact ⟨b, by simp [hb], by simp only; omega⟩
        · rcases List.mem_append.1 hu with hu | hu
          · have := hm u hu; simp only; omega
          · have : u = t := by simpa using hu
            subst this
            simp only; omega
theorem spanS_spec (g : Tru → Int) {l : List Tru} (h : l ≠ []) : IsSpan g l (spanS g l) := by
  have := foldS_spec g l [] (false, 0, 0) (.inl ⟨rfl, rfl⟩) (by simpa using h)
  simpa [spanS, foldS] using this
/-! what is told -/
def TurnOut (T : Tks) (n : Int) : Int × Int := if tksE T (isT T n) ≠ 0 then (0, tksE T (isT T n)) else (gradeI ((allT T).any fun t => turnT T.l.length t n.toNat) ((allT T).any fun t => !turnT T.l.length t n.toNat), 0)
def MinutesOut (T : Tks) (n : Int) : Sp × Sp × Int := if tksE T (isT T n) ≠ 0 then (⟨0, 0⟩, ⟨0, 0⟩, tksE T (isT T n)) else (spanS (fun t => (t n.toNat).1) (allT T), spanS (fun t => (t n.toNat).2) (allT T), 0)
def WaitsOut (T : Tks) : Sp × Int := if tksE T true ≠ 0 then (⟨0, 0⟩, tksE T true) else (spanS (longT T.l.length) (allT T), 0)
def WrongOut (T : Tks) : Sp × Int := if tksE T true ≠ 0 then (⟨0, 0⟩, tksE T true) else (spanS (oddT T.l.length) (allT T), 0)
end Go.Ti
/- Tills in plain words: which are valid, and the errors of tills and books. -/
namespace Go.Ti
open Go.W (gt gt_of)
def tillB (X : Till) : Bool := tksB X.tk && inB X.price 0 100 && inB X.fine 0 100 && inB X.wait 0 100
def entB (X : Till) (e : Ent) : Bool := isT X.tk e.ticket && inB e.kind 1 3
/-- the errors of opening a till with a book -/
def tillE (X : Till) (l : List Ent) (is : Bool) : Int := if tillB X = false then 1 else if 20 < l.length then 3 else if is = false then 2 else if l.all (entB X) = false then 2 else 0
theorem tillE_1 {X : Till} {l : List Ent} {is : Bool} (h : tillB X = false) : tillE X l is = 1 := by unfold tillE; rw [if_pos h]
theorem tillE_3 {X : Till} {l : List Ent} {is : Bool} (h : tillB X = true) (h3 : 20 < l.length) : tillE X l is = 3 := by
  unfold tillE; rw [if_neg (by rw [h]; simp), if_pos h3]
theorem tillE_2 {X : Till} {l : List Ent} {is : Bool} (h : tillB X = true) (h3 : l.length ≤ 20) (hi : is = false) : tillE X l is = 2 := by
  unfold tillE; rw [if_neg (by rw [h]; simp), if_neg (by omega), if_pos hi]
theorem tillE_4 {X : Till} {l : List Ent} {is : Bool} (h : tillB X = true) (h3 : l.length ≤ 20) {k : Nat} (hk : k < l.length) (he : entB X (gt l k) = false) : tillE X l is = 2 := by
  have ha : l.all (entB X) = false := by
    rw [List.all_eq_false]
    exact ⟨gt l k, gt_mem hk, by rw [he]; simp⟩
  unfold tillE
  rw [if_neg (by rw [h]; simp), if_neg (by omega)]
  cases is <;> simp [ha]
theorem tillE_0 {X : Till} {l : List Ent} {is : Bool} (h : tillB X = true) (h3 : l.length ≤ 20) (hi : is = true) (ha : ∀ k, k < l.length → entB X (gt l k) = true) : tillE X l is = 0 := by
  unfold tillE
  rw [if_neg (by rw [h]; simp), if_neg (by omega), if_neg (by rw [hi]; simp), if_neg (by rw [all_iff.2 ha]; simp)]
theorem tillE_all {X : Till} {l : List Ent} {is : Bool} (h : tillE X l is = 0) : tillB X = true ∧ l.length ≤ 20 ∧ is = true ∧ ∀ k, k < l.length → entB X (gt l k) = true := by
  unfold tillE at h
  split at h
  · omega
  · split at h
    · omega
    · split at h
      · omega
      · split at h
        · omega
        · rename_i h1 h2 h3 h4
          exact ⟨by simpa using h1, by omega, by simpa using h3, all_iff.1 (by simpa using h4)⟩
theorem isT_neg (T : Tks) : isT T (-1) = false := decide_eq_false (by omega)
theorem tksE_neg (T : Tks) : tksE T (isT T (-1)) = if tksB T then 2 else 1 := by
  unfold tksE
  rw [isT_neg]
  cases tksB T <;> simp
theorem ent_kind {X : Till} {e : Ent} (h : entB X e = true) : ∃ a k : Nat, e.ticket = (a : Int) ∧ a < X.tk.l.length ∧ e.kind = (k : Int) ∧ 1 ≤ k ∧ k ≤ 3 := by
  unfold entB at h
  rw [Bool.and_eq_true] at h
  have h1 := of_decide_eq_true h.1
  have h2 := of_decide_eq_true h.2
  exact ⟨e.ticket.toNat, e.kind.toNat, by omega, by omega, by omega, by omega, by omega⟩
theorem tillB_num {X : Till} (h : tillB X = true) : tksB X.tk = true ∧ (0 ≤ X.price ∧ X.price ≤ 100) ∧ (0 ≤ X.fine ∧ X.fine ≤ 100) ∧ (0 ≤ X.wait ∧ X.wait ≤ 100) := by
  simp only [tillB, inB, Bool.and_eq_true, decide_eq_true_eq] at h
  exact ⟨h.1.1.1, h.1.1.2, h.1.2, h.2⟩
end Go.Ti
/- What can be due of a ticket, in plain words, and bounds of it. -/
namespace Go.Ti
open Go.W (gt gt_of)
theorem tksE_zero {T : Tks} {is : Bool} (h : tksE T is = 0) : tksB T = true ∧ is = true ∧ allT T ≠ [] := by
  unfold tksE at h
  split at h
  · omega
  · split at h
    · omega
    · split at h
      · omega
      · rename_i h1 h2 h3
        exact ⟨by simpa using h1, by simpa using h2, fun e => h3 (by rw [e]; rfl)⟩
theorem sol_num {T : Tks} (hv : tksB T = true) {t : Tru} (h : t ∈ allT T) {i : Nat} (hi : i < T.l.length) :
    (0 ≤ (t i).1 ∧ (t i).1 ≤ 240) ∧ (0 ≤ (t i).2 ∧ (t i).2 ≤ 240) ∧ (t i).1 ≤ (t i).2 := by
  have h1 := pairP_iff.1 ((mem_allT.1 h).pair i hi)
  have h2 := (tks_num hv).2.2 i hi
  omega
theorem isT_lt {T : Tks} {n : Int} (h : isT T n = true) : n.toNat < T.l.length ∧ n = (n.toNat : Int) := by
  have := of_decide_eq_true h
  omega
theorem minutes_num (T : Tks) (n : Int) : (0 ≤ (MinutesOut T n).1.lo ∧ (MinutesOut T n).1.lo ≤ (MinutesOut T n).1.hi ∧ (MinutesOut T n).1.hi ≤ 240) ∧ (0 ≤ (MinutesOut T n).2.1.lo ∧ (MinutesOut T n).2.1.lo ≤ (MinutesOut T n).2.1.hi ∧ (MinutesOut T n).2.1.hi ≤ 240) ∧ (MinutesOut T n).1.lo ≤ (MinutesOut T n).2.1.hi := by
  unfold MinutesOut
  split
  · simp
  · rename_i h
    obtain ⟨hv, hi, hne⟩ := tksE_zero (T := T) (is := isT T n) (by omega)
    have hlt := (isT_lt hi).1
    obtain ⟨⟨t1, m1, e1⟩, ⟨t2, m2, e2⟩, h1⟩ := spanS_spec (fun t => (t n.toNat).1) hne
    obtain ⟨⟨t3, m3, e3⟩, ⟨t4, m4, e4⟩, h2⟩ := spanS_spec (fun t => (t n.toNat).2) hne
    have a1 := sol_num hv m1 hlt
    have a2 := sol_num hv m2 hlt
    have a3 := sol_num hv m3 hlt
    have a4 := sol_num hv m4 hlt
    have b1 := h1 t1 m1
    have b2 := h2 t1 m1
    have b4 := h2 t4 m4
    simp only at *
    omega
/-- how many whole ten minutes a ticket can wait -/
def waitsSp (T : Tks) (n : Int) : Sp := ⟨max 0 ((MinutesOut T n).2.1.lo - (MinutesOut T n).1.hi) / 10, ((MinutesOut T n).2.1.hi - (MinutesOut T n).1.lo) / 10⟩
theorem waits_num (T : Tks) (n : Int) : 0 ≤ (waitsSp T n).lo ∧ (waitsSp T n).lo ≤ 24 ∧ 0 ≤ (waitsSp T n).hi ∧ (waitsSp T n).hi ≤ 24 := by
  have := minutes_num T n
  unfold waitsSp
  simp only
  omega
def priceSp (X : Till) : Sp := ⟨X.price, X.price⟩
def fineSp (X : Till) (n : Int) : Sp := ⟨if (TurnOut X.tk n).1 ≠ 0 then 0 else X.fine, if (TurnOut X.tk n).1 = 2 then 0 else X.fine⟩
def backSp (X : Till) (n : Int) : Sp := ⟨X.wait * (waitsSp X.tk n).lo, X.wait * (waitsSp X.tk n).hi⟩
def priceCan (X : Till) (n m : Int) : Bool := decide (m = X.price) && isT X.tk n
def fineCan (X : Till) (n m : Int) : Bool := decide ((TurnOut X.tk n).1 ≠ 2) && (decide (m = X.fine) && isT X.tk n)
def backCan (X : Till) (n m : Int) : Bool := (rng (waitsSp X.tk n).lo (waitsSp X.tk n).hi).any fun k => decide (k * X.wait = m)
/-- what can be due, by kinds -/
def spanOf (X : Till) (n : Int) : Nat → Sp
  | 1 => priceSp X
  | 2 => fineSp X n
  | _ => backSp X n
def canOf (X : Till) (n m : Int) : Nat → Bool
  | 1 => priceCan X n m
  | 2 => fineCan X n m
  | _ => backCan X n m
theorem mul_100 {a k : Int} (ha : 0 ≤ a ∧ a ≤ 100) (hk : 0 ≤ k ∧ k ≤ 24) : 0 ≤ a * k ∧ a * k ≤ 2400 := by
  refine ⟨Int.mul_nonneg ha.1 hk.1, ?_⟩
  have h1 : a * k ≤ 100 * k := Int.mul_le_mul_of_nonneg_right ha.2 hk.1
  omega
def spanE (X : Till) (n : Int) : Int := if tillE X [] (isT X.tk n) ≠ 0 then tillE X [] (isT X.tk n) else tksE X.tk true
def TakingsOut (X : Till) : Int × Int := if tillB X = false then (0, 1) else (X.price * X.tk.l.length, 0)
def FineOut (X : Till) (n : Int) : Sp × Int := if spanE X n ≠ 0 then (⟨0, 0⟩, spanE X n) else (fineSp X n, 0)
def BackOut (X : Till) (n : Int) : Sp × Int := if spanE X n ≠ 0 then (⟨0, 0⟩, spanE X n) else (backSp X n, 0)
def toldE (X : Till) (l : List Ent) : Int := if tillE X l true ≠ 0 then tillE X l true else tksE X.tk true
def FinesOut (X : Till) : Sp × Int := if toldE X [] ≠ 0 then (⟨0, 0⟩, toldE X []) else (⟨(WrongOut X.tk).1.lo * X.fine, (WrongOut X.tk).1.hi * X.fine⟩, 0)
end Go.Ti
/- Books in plain words: which entries break which rule, what a book comes to, what is missing. -/
namespace Go.Ti
open Go.W (gt gt_of)
def bookedB (l : List Ent) (t k : Int) : Bool := l.any fun e => decide (e.ticket = t ∧ e.kind = k)
def ruleI (X : Till) (l : List Ent) (i : Nat) : Int := if bookedB (l.take i) (gt l i).ticket (gt l i).kind then 1 else if canOf X (gt l i).ticket (gt l i).pence (gt l i).kind.toNat = false then 2 else 0
def brokL (X : Till) (l : List Ent) (n : Nat) : List Nat := (List.range n).filter fun i => decide (ruleI X l i ≠ 0)
theorem brok_succ (X : Till) (l : List Ent) (i : Nat) : brokL X l (i + 1) = brokL X l i ++ if ruleI X l i ≠ 0 then [i] else [] := by
  unfold brokL
  rw [List.range_succ, List.filter_append]
  congr 1
  by_cases h : ruleI X l i = 0 <;> simp [h]
theorem brok_split (X : Till) (l : List Ent) {i n : Nat} (hi : i < n) (h : ruleI X l i ≠ 0) : ∃ post, brokL X l n = brokL X l i ++ i :: post := by
  induction n with
  | zero => omega
  | succ n ih =>
    rw [brok_succ]
    rcases Nat.lt_or_ge i n with h1 | h1
    · obtain ⟨post, e⟩ := ih h1
      exact ⟨post ++ if ruleI X l n ≠ 0 then [n] else [], by rw [e]; simp⟩
    · have : i = n := by omega
      subst this
      exact ⟨[], by rw [if_pos h]⟩
theorem brok_at (X : Till) (l : List Ent) {i n : Nat} (hi : i < n) (h : ruleI X l i ≠ 0) : (brokL X l i).length < (brokL X l n).length ∧ gt (brokL X l n) (brokL X l i).length = i := by
  obtain ⟨post, e⟩ := brok_split X l hi h
  rw [e]
  refine ⟨by simp, ?_⟩
  simp [gt, List.getD]
theorem brok_len (X : Till) (l : List Ent) (i : Nat) : (brokL X l (i + 1)).length = (brokL X l i).length + if ruleI X l i ≠ 0 then 1 else 0 := by
  rw [brok_succ, List.length_append]
  split <;> rfl
theorem booked_take {l : List Ent} {i : Nat} (hi : i < l.length) (t k : Int) : bookedB (l.take (i + 1)) t k = (bookedB (l.take i) t k || decide ((gt l i).ticket = t ∧ (gt l i).kind = k)) := by
  have hg : gt l i = l[i] := by simp [gt, List.getD, hi]
  unfold bookedB
  rw [List.take_succ_eq_append_getElem hi, List.any_append, hg]
  simp
def CheckOut (X : Till) (l : List Ent) : Int × Int × Int := if toldE X l ≠ 0 then (0, 0, toldE X l) else match brokL X l l.length with
  | [] => (0, 0, 4)
  | i :: _ => ((i : Int), ruleI X l i, 0)
def signI (e : Ent) : Int := if e.kind = 3 then e.pence * -1 else e.pence
def SumOut (X : Till) (l : List Ent) : Int × Int := if toldE X l ≠ 0 then (0, toldE X l) else if brokL X l l.length ≠ [] then (0, 11) else (((List.range l.length).map fun i => signI (gt l i)).sum, 0)
/-- the first numbers for which something is so, as bits -/
def bitsI (f : Nat → Bool) : Nat → Nat
  | 0 => 0
  | n + 1 => bitsI f n + if f n then 2 ^ n else 0
theorem bits_lt (f : Nat → Bool) : ∀ n, bitsI f n < 2 ^ n := by
  intro n
  induction n with
  | zero => simp [bitsI]
  | succ n ih => unfold bitsI; split <;> omega
theorem bits_congr {f g : Nat → Bool} : ∀ {n}, (∀ i, i < n → f i = g i) → bitsI f n = bitsI g n := by
  intro n
  induction n with
  | zero => intro _; rfl
  | succ n ih => intro h; unfold bitsI; rw [ih fun i hi => h i (by omega), h n (by omega)]
def missB (X : Till) (l : List Ent) (k n : Nat) : Bool := !bookedB l (n : Int) (k : Int) && (decide (k = 1) || decide ((spanOf X (n : Int) k).lo > 0))
def MissOut (X : Till) (l : List Ent) : Int × Int × Int × Int := if toldE X l ≠ 0 then (0, 0, 0, toldE X l) else ((bitsI (missB X l 1) X.tk.l.length : Int), (bitsI (missB X l 2) X.tk.l.length : Int), (bitsI (missB X l 3) X.tk.l.length : Int), 0)
theorem can_num {X : Till} (h : tillB X = true) {n m : Int} {k : Nat} (hc : canOf X n m k = true) : 0 ≤ m ∧ m ≤ 2400 := by
  have hb := tillB_num h
  unfold canOf at hc
  split at hc
  · simp only [priceCan, Bool.and_eq_true, decide_eq_true_eq] at hc; omega
  · simp only [fineCan, Bool.and_eq_true, decide_eq_true_eq] at hc; omega
  · obtain ⟨k, hk, he⟩ := List.any_eq_true.1 hc
    have h1 := mem_rng.1 hk
    have h2 := waits_num X.tk n
    have h3 := mul_100 hb.2.2.2 (k := k) (by omega)
    rw [Int.mul_comm] at h3
    have := of_decide_eq_true he
    omega
theorem rule_zero {X : Till} {l : List Ent} {i : Nat} (h : ruleI X l i = 0) : canOf X (gt l i).ticket (gt l i).pence (gt l i).kind.toNat = true := by
  unfold ruleI at h
  split at h
  · omega
  · split at h
    · omega
    · rename_i h2; simpa using h2
theorem brok_nil {X : Till} {l : List Ent} {n : Nat} (h : brokL X l n = []) : ∀ i, i < n → ruleI X l i = 0 := fun i hi => by
  by_cases h1 : ruleI X l i = 0
  · exact h1
  · obtain ⟨post, e⟩ := brok_split X l hi h1
    rw [h] at e
    simp at e
theorem rule_cases (X : Till) (l : List Ent) (i : Nat) : ruleI X l i = 0 ∨ ruleI X l i = 1 ∨ ruleI X l i = 2 := by
  unfold ruleI; split
  · exact .inr (.inl rfl)
  · split
    · exact .inr (.inr rfl)
    · exact .inl rfl
end Go.Ti
/- How pence are split, in plain words. -/
namespace Go.Ti
open Go.W (gt gt_of)
def splitB (much : Int) (ps : List Int) : Bool := inB much 0 5000 && decide (ps.length ≤ 6) && ps.all fun p => inB p 0 20
def downN (M A : Nat) (qs : List Nat) (i : Nat) : Nat := M * gt qs i / A
def remN (M A : Nat) (qs : List Nat) (i : Nat) : Nat := M * gt qs i % A
def sumF (f : Nat → Nat) : Nat → Nat
  | 0 => 0
  | n + 1 => sumF f n + f n
def leftN (M A : Nat) (qs : List Nat) (k : Nat) : Nat := M - sumF (downN M A qs) k
def incL (l js : List Nat) : List Nat := js.foldl (fun l i => l.set i (gt l i + 1)) l
def keyS (M A : Nat) (qs : List Nat) (i : Nat) : Int := -(remN M A qs i : Int)
def downL (M A : Nat) (qs : List Nat) (k n : Nat) : List Nat := (List.range n).map fun i => if i < k then downN M A qs i else 0
def splitL (M : Nat) (qs : List Nat) : List Nat := if qs.sum = 0 then List.replicate qs.length 0 else incL (downL M qs.sum qs qs.length qs.length) ((sortT (keyS M qs.sum qs) qs.length).take (leftN M qs.sum qs qs.length))
def SplitOut (much : Int) (ps : List Int) : List Nat × Int := if splitB much ps then (splitL much.toNat (ps.map Int.toNat), 0) else ([], 1)
theorem sumN_take {l : List Nat} {k : Nat} (hk : k < l.length) : (l.take (k + 1)).sum = (l.take k).sum + gt l k := by
  have hg : gt l k = l[k] := by simp [gt, List.getD, hk]
  rw [List.take_succ_eq_append_getElem hk, List.sum_append, hg]
  simp
theorem sumN_mono (l : List Nat) (k : Nat) : (l.take k).sum ≤ l.sum := by
  have h := congrArg List.sum (List.take_append_drop k l)
  rw [List.sum_append] at h
  omega
theorem sumN_bound {l : List Nat} {c : Nat} (h : ∀ i, i < l.length → gt l i ≤ c) : ∀ k, k ≤ l.length → (l.take k).sum ≤ c * k := by
  intro k
  induction k with
  | zero => intro _; simp
  | succ k ih =>
    intro hk
    rw [sumN_take (by omega), Nat.mul_succ]
    have := ih (by omega)
    have := h k (by omega)
    omega
theorem down_sum (M A : Nat) (qs : List Nat) : ∀ k, k ≤ qs.length → sumF (downN M A qs) k * A + sumF (remN M A qs) k = M * (qs.take k).sum := by
  intro k
  induction k with
  | zero => intro _; simp [sumF]
  | succ k ih =>
    intro hk
    have h1 := ih (by omega)
    have h2 : downN M A qs k * A + remN M A qs k = M * gt qs k := by
      unfold downN remN
      rw [Nat.mul_comm (M * gt qs k / A)]
      exact Nat.div_add_mod _ _
    show (sumF (downN M A qs) k + downN M A qs k) * A + (sumF (remN M A qs) k + remN M A qs k) = _
    rw [sumN_take (by omega), Nat.mul_add, Nat.add_mul]
    omega
theorem down_le {M A : Nat} {qs : List Nat} (hA : A = qs.sum) (h0 : 0 < A) {k : Nat} (hk : k ≤ qs.length) : sumF (downN M A qs) k ≤ M := by
  have h1 := down_sum M A qs k hk
  have h2 : M * (qs.take k).sum ≤ M * A := Nat.mul_le_mul_left M (by rw [hA]; exact sumN_mono qs k)
  exact Nat.le_of_mul_le_mul_right (by omega : sumF (downN M A qs) k * A ≤ M * A) h0
theorem rem_sum {M A : Nat} {qs : List Nat} (h0 : 0 < A) : ∀ k, sumF (remN M A qs) k ≤ k * (A - 1) := by
  intro k
  induction k with
  | zero => simp [sumF]
  | succ k ih =>
    unfold sumF
    have : remN M A qs k < A := Nat.mod_lt _ h0
    rw [Nat.succ_mul]
    omega
theorem left_rem {M A : Nat} {qs : List Nat} (hA : A = qs.sum) (h0 : 0 < A) : leftN M A qs qs.length * A = sumF (remN M A qs) qs.length := by
  have h1 := down_sum M A qs qs.length (Nat.le_refl _)
  rw [List.take_length, ← hA] at h1
  unfold leftN
  rw [Nat.sub_mul]
  omega
theorem left_lt {M A : Nat} {qs : List Nat} (hA : A = qs.sum) (h0 : 0 < A) : leftN M A qs qs.length < qs.length := by
  have h1 := left_rem (M := M) hA h0
  have h2 := rem_sum (M := M) (qs := qs) h0 qs.length
  have hn : 0 < qs.length := by
    rcases Nat.eq_zero_or_pos qs.length with h | h
    · have : qs = [] := List.eq_nil_of_length_eq_zero h
      rw [this] at hA
      simp at hA
      omega
    · exact h
  have h3 : qs.length * (A - 1) < qs.length * A := Nat.mul_lt_mul_of_pos_left (by omega) hn
  exact Nat.lt_of_mul_lt_mul_right (a := A) (by omega)
theorem downL_len (M A : Nat) (qs : List Nat) (k n : Nat) : (downL M A qs k n).length = n := by simp [downL]
theorem downL_at (M A : Nat) (qs : List Nat) {k n i : Nat} (hi : i < n) : gt (downL M A qs k n) i = if i < k then downN M A qs i else 0 := by simp [downL, gt, List.getD, hi]
theorem downL_zero (M A : Nat) (qs : List Nat) (n : Nat) : downL M A qs 0 n = List.replicate n 0 := by
  apply List.ext_getElem
  · simp [downL]
  · intro i h1 h2
    simp [downL]
theorem downL_step (M A : Nat) (qs : List Nat) {k n : Nat} : (downL M A qs k n).set k (downN M A qs k) = downL M A qs (k + 1) n := by
  apply List.ext_getElem
  · simp [downL]
  · intro i h1 h2
    simp only [downL, List.getElem_set, List.getElem_map, List.getElem_range]
    by_cases e : k = i
    · subst e; rw [if_pos rfl, if_pos (by omega)]
    · rw [if_neg e]
      by_cases h : i < k
      · rw [if_pos h, if_pos (by omega)]
      · rw [if_neg h, if_neg (by omega)]
theorem inc_take {l js : List Nat} {k : Nat} (hk : k < js.length) : incL l (js.take (k + 1)) = (incL l (js.take k)).set (gt js k) (gt (incL l (js.take k)) (gt js k) + 1) := by
  have hg : gt js k = js[k] := by simp [gt, List.getD, hk]
  unfold incL
  rw [List.take_succ_eq_append_getElem hk, List.foldl_append, hg]
  rfl
theorem inc_len (l : List Nat) : ∀ js, (incL l js).length = l.length := by
  intro js
  induction js generalizing l with
  | nil => rfl
  | cons j js ih => exact (ih _).trans (by simp)
theorem inc_bound {l : List Nat} {c : Nat} (h : ∀ i, i < l.length → gt l i ≤ c) (js : List Nat) (hjs : ∀ i, i < js.length → gt js i < l.length) : ∀ k, k ≤ js.length → ∀ i, i < l.length → gt (incL l (js.take k)) i ≤ c + k := by
  intro k
  induction k with
  | zero => intro _ i hi; have := h i hi; simp only [List.take_zero]; exact this
  | succ k ih =>
    intro hk i hi
    rw [inc_take (by omega), gt_set _ _ _ _ (by rw [inc_len]; exact hjs k (by omega))]
    split
    · have := ih (by omega) (gt js k) (hjs k (by omega)); omega
    · have := ih (by omega) i hi; omega
theorem down_num {M A : Nat} {qs : List Nat} (hM : M ≤ 5000) (hq : ∀ i, i < qs.length → gt qs i ≤ 20) {i : Nat} (hi : i < qs.length) : M * gt qs i ≤ 100000 ∧ downN M A qs i ≤ 100000 := by
  have h1 : M * gt qs i ≤ 5000 * 20 := Nat.mul_le_mul hM (hq i hi)
  have h2 : M * gt qs i / A ≤ M * gt qs i := Nat.div_le_self _ _
  unfold downN
  omega
theorem sumI_bound {l : List Int} {n : Nat} (hn : n ≤ l.length) (h : ∀ i, i < n → inB (gt l i) 0 20 = true) : 0 ≤ (l.take n).sum ∧ (l.take n).sum ≤ 20 * (n : Int) := by
  induction n with
  | zero => simp
  | succ n ih =>
    have h1 := ih (by omega) (fun i hi => h i (by omega))
    have h2 := of_decide_eq_true (h n (by omega))
    have hg : gt l n = l[n] := by simp [gt, List.getD, show n < l.length by omega]
    rw [List.take_succ_eq_append_getElem (by omega), List.sum_append, ← hg]
    simp only [List.sum_cons, List.sum_nil]
    omega
end Go.Ti
