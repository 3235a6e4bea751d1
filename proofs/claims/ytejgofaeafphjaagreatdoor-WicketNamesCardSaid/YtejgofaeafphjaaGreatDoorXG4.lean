import Derived.Test.YtejgofaeafphjaaGreatDoorXG1
import Derived.Test.YtejgofaeafphjaaGreatDoorRows
import Derived.Test.YtejgofaeafphjaaGreatDoorXG0
import Derived.Test.YtejgofaeafphjaaGreatDoorXG3
set_option linter.unusedSimpArgs false
set_option linter.unusedVariables false
set_option linter.all false
set_option maxRecDepth 100000
set_option maxHeartbeats 4000000
attribute [local irreducible] Go.W.WL Go.W.WLF Go.W.WC Go.W.WCF Go.W.WP Go.W.WA Go.W.WQ Go.W.WH Go.W.WHo Go.W.WCn Go.Code.wp Go.Code.wpIn
namespace Go.Ti
open Go.W (gt gt_of)
structure Sp where
  lo : Int
  hi : Int
deriving DecidableEq, Inhabited
structure Tick where
  bought : Sp
  hut : Int
  door : Sp
deriving DecidableEq, Inhabited
structure Tks where
  huts : Int
  l : List Tick
structure Ent where
  ticket : Int
  kind : Int
  pence : Int
deriving DecidableEq, Inhabited
structure Till where
  tk : Tks
  price : Int
  fine : Int
  wait : Int
theorem gt_mem {α : Type} [Inhabited α] {l : List α} {i : Nat} (h : i < l.length) : gt l i ∈ l := by
  have : gt l i = l[i] := by simp [gt, List.getD, h]
  rw [this]; exact List.getElem_mem h
theorem gt_out {α : Type} [Inhabited α] {l : List α} {i : Nat} (h : l.length ≤ i) : gt l i = default := by
  simp [gt, List.getD, h]
theorem mem_gt {α : Type} [Inhabited α] {l : List α} {x : α} (h : x ∈ l) : ∃ i, i < l.length ∧ gt l i = x := by
  obtain ⟨i, hi, rfl⟩ := List.getElem_of_mem h
  exact ⟨i, hi, by simp [gt, List.getD, hi]⟩
theorem all_iff {α : Type} [Inhabited α] {l : List α} {p : α → Bool} : l.all p = true ↔ ∀ i, i < l.length → p (gt l i) = true := by
  rw [List.all_eq_true]
  constructor
  · intro h i hi; exact h _ (gt_mem hi)
  · intro h x hx
    obtain ⟨i, hi, rfl⟩ := mem_gt hx
    exact h i hi
theorem ext_round {p : Nat → Prop} {k : Nat} (h : ∀ i, i < k → p i) (hk : p k) : ∀ i, i < k + 1 → p i := fun i hi => by
  rcases Nat.lt_or_ge i k with h' | h'
  · exact h i h'
  · have : i = k := by omega
    rw [this]; exact hk
theorem gt_set {α : Type} [Inhabited α] (l : List α) (i j : Nat) (x : α) (hi : i < l.length) : gt (l.set i x) j = if i = j then x else gt l j := by
  simp only [gt, List.getD, List.getElem?_set]
  split
  · rename_i e; subst e; simp [hi]
  · rfl
theorem gt_app_left {α : Type} [Inhabited α] {l m : List α} {i : Nat} (h : i < l.length) : gt (l ++ m) i = gt l i := by
  simp [gt, List.getD, List.getElem?_append_left h]
theorem gt_range {n i : Nat} (h : i < n) : gt (List.range n) i = i := by
  simp [gt, List.getD, h]
theorem nodup_inj {l : List Nat} (h : l.Nodup) {i j : Nat} (hi : i < l.length) (hj : j < l.length) (e : gt l i = gt l j) : i = j := by
  have h2 := List.pairwise_iff_getElem.1 h
  have a1 : gt l i = l[i] := by simp [gt, List.getD, hi]
  have a2 : gt l j = l[j] := by simp [gt, List.getD, hj]
  rw [a1, a2] at e
  rcases Nat.lt_trichotomy i j with h3 | h3 | h3
  · exact absurd e (h2 i j hi hj h3)
  · exact h3
  · exact absurd e.symm (h2 j i hj hi h3)
def inB (n lo hi : Int) : Bool := decide (lo ≤ n ∧ n ≤ hi)
def spanT (s : Sp) : Bool := decide (0 ≤ s.lo ∧ s.lo ≤ s.hi ∧ s.hi ≤ 240 ∧ s.hi - s.lo ≤ 2)
def hutT (T : Tks) (n : Int) : Bool := decide (0 ≤ n ∧ n ≤ T.huts - 1)
def isT (T : Tks) (n : Int) : Bool := decide (0 ≤ n ∧ n ≤ (T.l.length : Int) - 1)
def tickB (T : Tks) (x : Tick) : Bool := hutT T x.hut && spanT x.bought && spanT x.door
def tksB (T : Tks) : Bool := decide (1 ≤ T.huts ∧ T.huts ≤ 4) && decide (T.l.length ≤ 5) && T.l.all (tickB T)
theorem tksB_iff (T : Tks) : tksB T = true ↔ (1 ≤ T.huts ∧ T.huts ≤ 4) ∧ T.l.length ≤ 5 ∧ ∀ i, i < T.l.length → tickB T (gt T.l i) = true := by
  simp only [tksB, Bool.and_eq_true, decide_eq_true_eq, all_iff, and_assoc]
theorem tks_num {T : Tks} (h : tksB T = true) : (1 ≤ T.huts ∧ T.huts ≤ 4) ∧ T.l.length ≤ 5 ∧ ∀ i, i < T.l.length →
    (0 ≤ (gt T.l i).hut ∧ (gt T.l i).hut < T.huts) ∧ (0 ≤ (gt T.l i).bought.lo ∧ (gt T.l i).bought.lo ≤ (gt T.l i).bought.hi ∧ (gt T.l i).bought.hi ≤ 240 ∧ (gt T.l i).bought.hi - (gt T.l i).bought.lo ≤ 2) ∧
    (0 ≤ (gt T.l i).door.lo ∧ (gt T.l i).door.lo ≤ (gt T.l i).door.hi ∧ (gt T.l i).door.hi ≤ 240 ∧ (gt T.l i).door.hi - (gt T.l i).door.lo ≤ 2) := by
  obtain ⟨h1, h2, h3⟩ := (tksB_iff T).1 h
  refine ⟨h1, h2, fun i hi => ?_⟩
  have := h3 i hi
  simp only [tickB, hutT, spanT, Bool.and_eq_true, decide_eq_true_eq] at this
  obtain ⟨⟨a, b⟩, c⟩ := this
  exact ⟨by omega, b, c⟩
def sink (less : Nat → Nat → Bool) : Nat → List Nat → List Nat
  | 0, l => l
  | j + 1, l => if less (gt l (j + 1)) (gt l j) then sink less j ((l.set (j + 1) (gt l j)).set j (gt l (j + 1))) else l
def insT (less : Nat → Nat → Bool) : Nat → List Nat → List Nat
  | 0, l => l
  | k + 1, l => sink less (k + 1) (insT less k l)
theorem sink_len (less : Nat → Nat → Bool) : ∀ j l, (sink less j l).length = l.length := by
  intro j
  induction j with
  | zero => intro l; rfl
  | succ j ih =>
    intro l
    unfold sink
    split
    · rw [ih]; simp
    · rfl
def swp (l : List Nat) (i j : Nat) : List Nat := (l.set i (gt l j)).set j (gt l i)
theorem gt_swp {l : List Nat} {i j : Nat} (hi : i < l.length) (hj : j < l.length) (k : Nat) : gt (swp l i j) k = if k = j then gt l i else if k = i then gt l j else gt l k := by
  unfold swp
  rw [gt_set _ _ _ _ (by simpa using hj), gt_set _ _ _ _ hi]
  by_cases h1 : j = k
  · rw [if_pos h1, if_pos h1.symm]
  · rw [if_neg h1]
    by_cases h2 : i = k
    · rw [if_pos h2, if_neg (fun h => h1 h.symm), if_pos h2.symm]
    · rw [if_neg h2, if_neg (fun h => h1 h.symm), if_neg (fun h => h2 h.symm)]
theorem sink_law {lt : Nat → Nat → Prop} {less : Nat → Nat → Bool} (htr : ∀ a b c, lt a b → lt b c → lt a c) (k : Nat) : ∀ j (l : List Nat), j ≤ k → k < l.length → l.Nodup → (∀ i, i < l.length → gt l i < l.length) →
    (∀ a b, a < b → b ≤ k → a ≠ j → b ≠ j → lt (gt l a) (gt l b)) → (∀ b, j < b → b ≤ k → lt (gt l j) (gt l b)) →
    (∀ a, a < j → (less (gt l j) (gt l a) = true → lt (gt l j) (gt l a)) ∧ (less (gt l j) (gt l a) = false → lt (gt l a) (gt l j))) →
    (sink less j l).Perm l ∧ (∀ a b, a < b → b ≤ k → lt (gt (sink less j l) a) (gt (sink less j l) b)) ∧ (∀ i, k < i → gt (sink less j l) i = gt l i) := by
  intro j
  induction j with
  | zero =>
    intro l hj hk hnd hin hs hx hl
    refine ⟨List.Perm.refl _, fun a b hab hb => ?_, fun i _ => rfl⟩
    show lt (gt l a) (gt l b)
    by_cases h0 : a = 0
    · subst h0; exact hx b hab hb
    · exact hs a b hab hb h0 (by omega)
  | succ j ih =>
    intro l hj hk hnd hin hs hx hl
    unfold sink
    obtain ⟨hl1, hl2⟩ := hl j (by omega)
    by_cases hc : less (gt l (j + 1)) (gt l j) = true
    · rw [if_pos hc]
      have hlt := hl1 hc
      have e : (l.set (j + 1) (gt l j)).set j (gt l (j + 1)) = swp l (j + 1) j := rfl
      rw [e]
      have hg := gt_swp (l := l) (i := j + 1) (j := j) (by omega) (by omega)
      have hlen : (swp l (j + 1) j).length = l.length := by simp [swp]
      have hperm : (swp l (j + 1) j).Perm l := by
        have h1 : gt l j = l[j]'(by omega) := by simp [gt, List.getD, show j < l.length by omega]
        have h2 : gt l (j + 1) = l[j + 1]'(by omega) := by simp [gt, List.getD, show j + 1 < l.length by omega]
        unfold swp
        rw [h1, h2]
        exact List.set_set_perm (by omega) (by omega)
      have hgj : gt (swp l (j + 1) j) j = gt l (j + 1) := by rw [hg, if_pos rfl]
      obtain ⟨h1, h2, h3⟩ := ih (swp l (j + 1) j) (by omega) (by omega) (hperm.nodup_iff.2 hnd)
        (fun i hi => by
          rw [hlen] at hi ⊢
          rw [hg]
          split
          · exact hin _ (by omega)
          · split
            · exact hin _ (by omega)
            · exact hin _ hi)
        (fun a b hab hb ha hbj => by
          rw [hg, hg, if_neg ha, if_neg hbj]
          by_cases e1 : a = j + 1
          · rw [if_pos e1, if_neg (by omega)]
            exact hs j b (by omega) hb (by omega) (by omega)
          · rw [if_neg e1]
            by_cases e2 : b = j + 1
            · rw [if_pos e2]
              exact hs a j (by omega) (by omega) (by omega) (by omega)
            · rw [if_neg e2]
              exact hs a b hab hb e1 e2)
        (fun b hjb hb => by
          rw [hgj, hg, if_neg (by omega)]
          by_cases e2 : b = j + 1
          · rw [if_pos e2]; exact hlt
          · rw [if_neg e2]
            exact hx b (by omega) hb)
        (fun a ha => by
          rw [hgj, hg, if_neg (by omega), if_neg (by omega)]
          exact hl a (by omega))
      refine ⟨h1.trans hperm, h2, fun i hi => ?_⟩
      rw [h3 i hi, hg, if_neg (by omega), if_neg (by omega)]
    · rw [if_neg hc]
      have hlt := hl2 (by simpa using hc)
      refine ⟨List.Perm.refl _, fun a b hab hb => ?_, fun i _ => rfl⟩
      by_cases e1 : a = j + 1
      · subst e1; exact hx b hab hb
      · by_cases e2 : b = j + 1
        · subst e2
          by_cases e3 : a = j
          · subst e3; exact hlt
          · exact htr _ _ _ (hs a j (by omega) (by omega) (by omega) (by omega)) hlt
        · exact hs a b hab hb e1 e2
def lexB (key : Nat → Int) (a b : Nat) : Prop := key a < key b ∨ (key a = key b ∧ a < b)
theorem lexB_tr {key : Nat → Int} : ∀ a b c, lexB key a b → lexB key b c → lexB key a c := by
  intro a b c h1 h2
  unfold lexB at *
  omega
def byKey (key : Nat → Int) (a b : Nat) : Bool := decide (key a < key b)
theorem insT_law (key : Nat → Int) (n : Nat) : ∀ k, k < n → (insT (byKey key) k (List.range n)).Perm (List.range n) ∧
    (∀ a b, a < b → b ≤ k → lexB key (gt (insT (byKey key) k (List.range n)) a) (gt (insT (byKey key) k (List.range n)) b)) ∧ (∀ i, k < i → gt (insT (byKey key) k (List.range n)) i = gt (List.range n) i) ∧
    (∀ i, i ≤ k → gt (insT (byKey key) k (List.range n)) i ≤ k) := by
  intro k
  induction k with
  | zero =>
    intro hn
    refine ⟨List.Perm.refl _, fun a b hab hb => by omega, fun i _ => rfl, fun i hi => ?_⟩
    obtain rfl : i = 0 := by omega
    show gt (List.range n) 0 ≤ 0
    rw [gt_range hn]; exact Nat.le_refl _
  | succ k ih =>
    intro hn
    obtain ⟨h1, h2, h3, h4⟩ := ih (by omega)
    have hlen := h1.length_eq
    rw [List.length_range] at hlen
    have hk1 : gt (insT (byKey key) k (List.range n)) (k + 1) = k + 1 := by rw [h3 _ (by omega), gt_range hn]
    have hnd : (insT (byKey key) k (List.range n)).Nodup := h1.nodup_iff.2 List.nodup_range
    have hin : ∀ i, i < (insT (byKey key) k (List.range n)).length → gt (insT (byKey key) k (List.range n)) i < (insT (byKey key) k (List.range n)).length := fun i hi => by
      have := h1.mem_iff.1 (gt_mem hi)
      rw [hlen]; exact List.mem_range.1 this
    obtain ⟨g1, g2, g3⟩ := sink_law (lt := lexB key) (less := byKey key) lexB_tr (k + 1) (k + 1) (insT (byKey key) k (List.range n)) (Nat.le_refl _) (by rw [hlen]; exact hn) hnd hin
      (fun a b hab hb ha hbk => h2 a b hab (by omega)) (fun b hb hb2 => by omega)
      (fun a ha => by
        have h5 := h4 a (by omega)
        rw [hk1]
        refine ⟨fun h => .inl (of_decide_eq_true h), fun h => ?_⟩
        have h6 : ¬ key (k + 1) < key (gt (insT (byKey key) k (List.range n)) a) := of_decide_eq_false h
        unfold lexB
        omega)
    refine ⟨g1.trans h1, g2, fun i hi => by show gt (sink _ _ _) i = _; rw [g3 i hi, h3 i (by omega)], fun i hi => ?_⟩
    show gt (sink (byKey key) (k + 1) (insT (byKey key) k (List.range n))) i ≤ k + 1
    -- the rest stands still: so what is ahead of it is from ahead of it
    rcases Nat.lt_or_ge (k + 1) (gt (sink (byKey key) (k + 1) (insT (byKey key) k (List.range n))) i) with hlt | hge
    · exfalso
      have hi2 : i < (sink (byKey key) (k + 1) (insT (byKey key) k (List.range n))).length := by rw [sink_len, hlen]; omega
      have hm := (g1.trans h1).mem_iff.1 (gt_mem hi2)
      have hmn := List.mem_range.1 hm
      have e1 : gt (sink (byKey key) (k + 1) (insT (byKey key) k (List.range n))) (gt (sink (byKey key) (k + 1) (insT (byKey key) k (List.range n))) i) = gt (sink (byKey key) (k + 1) (insT (byKey key) k (List.range n))) i := by
        rw [g3 _ hlt, h3 _ (by omega), gt_range hmn]
      have hnd2 := (g1.trans h1).nodup_iff.2 List.nodup_range
      have hj2 : gt (sink (byKey key) (k + 1) (insT (byKey key) k (List.range n))) i < (sink (byKey key) (k + 1) (insT (byKey key) k (List.range n))).length := by rw [sink_len, hlen]; exact hmn
      have := nodup_inj hnd2 hj2 hi2 e1
      omega
    · exact hge
def sortT (key : Nat → Int) (n : Nat) : List Nat := insT (byKey key) (n - 1) (List.range n)
theorem sortT_perm (key : Nat → Int) (n : Nat) : (sortT key n).Perm (List.range n) := by
  unfold sortT
  cases n with
  | zero => exact List.Perm.refl _
  | succ n => exact (insT_law key (n + 1) n (by omega)).1
theorem sortT_lex (key : Nat → Int) (n : Nat) {a b : Nat} (hab : a < b) (hb : b < n) : lexB key (gt (sortT key n) a) (gt (sortT key n) b) := by
  unfold sortT
  exact (insT_law key n (n - 1) (by omega)).2.1 a b hab (by omega)
theorem sortT_len (key : Nat → Int) (n : Nat) : (sortT key n).length = n := by rw [(sortT_perm key n).length_eq, List.length_range]
theorem sortT_lt (key : Nat → Int) (n : Nat) {i : Nat} (hi : i < n) : gt (sortT key n) i < n := by
  have := (sortT_perm key n).mem_iff.1 (gt_mem (by rw [sortT_len]; exact hi))
  exact List.mem_range.1 this
theorem sortT_inj (key : Nat → Int) (n : Nat) {i j : Nat} (hi : i < n) (hj : j < n) (h : gt (sortT key n) i = gt (sortT key n) j) : i = j := by
  have hnd := (sortT_perm key n).nodup_iff.2 List.nodup_range
  have hi2 : i < (sortT key n).length := by rw [sortT_len]; exact hi
  have hj2 : j < (sortT key n).length := by rw [sortT_len]; exact hj
  exact nodup_inj hnd hi2 hj2 h
theorem sortT_onto (key : Nat → Int) (n : Nat) {i : Nat} (hi : i < n) : ∃ k, k < n ∧ gt (sortT key n) k = i := by
  obtain ⟨k, hk, h⟩ := mem_gt ((sortT_perm key n).mem_iff.2 (List.mem_range.2 hi))
  exact ⟨k, by rw [sortT_len] at hk; exact hk, h⟩
end Go.Ti
namespace Go.Ti
open Go.W (gt gt_of)
abbrev Pr := Int × Int
abbrev Tru := Nat → Pr
def zeroT : Tru := fun _ => (0, 0)
def upd (t : Tru) (i : Nat) (p : Pr) : Tru := fun j => if j = i then p else t j
theorem upd_same (t : Tru) (i : Nat) (p : Pr) : upd t i p i = p := by simp [upd]
theorem upd_other (t : Tru) {i j : Nat} (p : Pr) (h : j ≠ i) : upd t i p j = t j := by simp [upd, h]
def rng (lo hi : Int) : List Int := (List.range (hi - lo + 1).toNat).map fun i : Nat => lo + (i : Int)
theorem mem_rng {lo hi x : Int} : x ∈ rng lo hi ↔ lo ≤ x ∧ x ≤ hi := by
  simp only [rng, List.mem_map, List.mem_range]
  constructor
  · rintro ⟨i, hi, rfl⟩; omega
  · rintro ⟨h1, h2⟩; exact ⟨(x - lo).toNat, by omega, by omega⟩
def doorsFrom (x : Tick) (a : Int) : List Pr := (rng (max a x.door.lo) x.door.hi).map fun b => (a, b)
def pairsL (x : Tick) : List Pr := (rng x.bought.lo x.bought.hi).flatMap (doorsFrom x)
def pairP (x : Tick) (p : Pr) : Bool := decide ((x.bought.lo ≤ p.1 ∧ p.1 ≤ x.bought.hi) ∧ (x.door.lo ≤ p.2 ∧ p.2 ≤ x.door.hi) ∧ p.1 ≤ p.2)
theorem pairP_iff {x : Tick} {p : Pr} : pairP x p = true ↔ (x.bought.lo ≤ p.1 ∧ p.1 ≤ x.bought.hi) ∧ (x.door.lo ≤ p.2 ∧ p.2 ≤ x.door.hi) ∧ p.1 ≤ p.2 := by simp [pairP]
theorem mem_pairs {x : Tick} {p : Pr} : p ∈ pairsL x ↔ pairP x p = true := by
  obtain ⟨a, b⟩ := p
  rw [pairP_iff]
  simp only [pairsL, doorsFrom, List.mem_flatMap, List.mem_map, mem_rng, Prod.mk.injEq]
  constructor
  · rintro ⟨a', h1, b', h2, rfl, rfl⟩; omega
  · rintro ⟨h1, h2, h3⟩; exact ⟨a, h1, b, by omega, rfl, rfl⟩
def nearB (a b : Int) : Bool := decide (1 - 30 ≤ a - b ∧ a - b ≤ 30 - 1)
theorem nearB_comm (a b : Int) : nearB a b = nearB b a := by
  unfold nearB; congr 1; apply propext; omega
def clashB (T : Tks) (t : Tru) (o i : Nat) (p : Pr) : Bool := decide ((gt T.l o).hut = (gt T.l i).hut) && nearB (t o).2 p.2
def freeO (T : Tks) (ord : List Nat) (t : Tru) (at_ : Nat) (i : Nat) (p : Pr) : Bool := (List.range at_).all fun j => !clashB T t (gt ord j) i p
def truL (T : Tks) (ord : List Nat) : Nat → Tru → Nat → List Tru
  | 0, t, _ => [t]
  | rem + 1, t, at_ => (pairsL (gt T.l (gt ord at_))).flatMap fun p => if freeO T ord t at_ (gt ord at_) p then truL T ord rem (upd t (gt ord at_) p) (at_ + 1) else []
def hutKey (T : Tks) (i : Nat) : Int := (gt T.l i).hut
def ordT (T : Tks) : List Nat := sortT (hutKey T) T.l.length
def allT (T : Tks) : List Tru := truL T (ordT T) T.l.length zeroT 0
structure Sol (T : Tks) (x : Tru) : Prop where
  pair : ∀ i, i < T.l.length → pairP (gt T.l i) (x i) = true
  apart : ∀ i j, i < T.l.length → j < T.l.length → i ≠ j → (gt T.l i).hut = (gt T.l j).hut → nearB (x i).2 (x j).2 = false
  rest : ∀ i, T.l.length ≤ i → x i = (0, 0)
theorem clashB_false {T : Tks} {t : Tru} {o i : Nat} {p : Pr} : clashB T t o i p = false ↔ ((gt T.l o).hut = (gt T.l i).hut → nearB (t o).2 p.2 = false) := by
  unfold clashB
  by_cases h : (gt T.l o).hut = (gt T.l i).hut <;> simp [h]
theorem freeO_iff {T : Tks} {ord : List Nat} {t : Tru} {at_ i : Nat} {p : Pr} : freeO T ord t at_ i p = true ↔ ∀ j, j < at_ → (gt T.l (gt ord j)).hut = (gt T.l i).hut → nearB (t (gt ord j)).2 p.2 = false := by
  unfold freeO
  simp only [List.all_eq_true, List.mem_range, Bool.not_eq_true', clashB_false]
theorem truL_mem (T : Tks) (ord : List Nat) (n : Nat) (hinj : ∀ i j, i < n → j < n → gt ord i = gt ord j → i = j) : ∀ rem t at_ x, at_ + rem = n → (x ∈ truL T ord rem t at_ ↔
    (∀ k, at_ ≤ k → k < n → pairP (gt T.l (gt ord k)) (x (gt ord k)) = true ∧ ∀ j, j < k → (gt T.l (gt ord j)).hut = (gt T.l (gt ord k)).hut → nearB (x (gt ord j)).2 (x (gt ord k)).2 = false) ∧
    ∀ i, (∀ k, at_ ≤ k → k < n → gt ord k ≠ i) → x i = t i) := by
  intro rem
  induction rem with
  | zero =>
    intro t at_ x hat
    simp only [truL, List.mem_singleton]
    constructor
    · rintro rfl
      exact ⟨fun k h1 h2 => by omega, fun i _ => rfl⟩
    · rintro ⟨_, h⟩
      funext i
      exact h i fun k h1 h2 => by omega
  | succ rem ih =>
    intro t at_ x hat
    simp only [truL, List.mem_flatMap]
    constructor
    · rintro ⟨p, hp, hx⟩
      by_cases hf : freeO T ord t at_ (gt ord at_) p = true
      · rw [if_pos hf] at hx
        obtain ⟨h1, h2⟩ := (ih _ _ _ (by omega)).1 hx
        have hown : x (gt ord at_) = p := by
          rw [h2 (gt ord at_) (fun k hk1 hk2 e => by have := hinj _ _ hk2 (by omega) e; omega), upd_same]
        have hold : ∀ j, j < at_ → x (gt ord j) = t (gt ord j) := fun j hj => by
          rw [h2 (gt ord j) (fun k hk1 hk2 e => by have := hinj _ _ hk2 (by omega) e; omega), upd_other]
          intro e
          have := hinj _ _ (by omega) (by omega) e
          omega
        refine ⟨fun k hk1 hk2 => ?_, fun i hi => ?_⟩
        · by_cases e : k = at_
          · subst e
            rw [hown]
            refine ⟨mem_pairs.1 hp, fun j hj hh => ?_⟩
            rw [hold j hj]
            exact freeO_iff.1 hf j hj hh
          · exact h1 k (by omega) hk2
        · rw [h2 i (fun k hk1 hk2 => hi k (by omega) hk2), upd_other]
          exact fun e => hi at_ (Nat.le_refl _) (by omega) e.symm
      · rw [if_neg hf] at hx; cases hx
    · rintro ⟨h1, h2⟩
      obtain ⟨hp, hf⟩ := h1 at_ (Nat.le_refl _) (by omega)
      have hold : ∀ j, j < at_ → x (gt ord j) = t (gt ord j) := fun j hj => h2 _ (fun k hk1 hk2 e => by have := hinj _ _ hk2 (by omega) e; omega)
      refine ⟨x (gt ord at_), mem_pairs.2 hp, ?_⟩
      rw [if_pos (freeO_iff.2 fun j hj hh => by rw [← hold j hj]; exact hf j hj hh)]
      refine (ih _ _ _ (by omega)).2 ⟨fun k hk1 hk2 => h1 k (by omega) hk2, fun i hi => ?_⟩
      by_cases e : i = gt ord at_
      · rw [e, upd_same]
      · rw [upd_other _ _ e]
        refine h2 i fun k hk1 hk2 => ?_
        by_cases e2 : k = at_
        · subst e2; exact fun e3 => e e3.symm
        · exact hi k (by omega) hk2
theorem sol_of {T : Tks} {ord : List Nat} (hlt : ∀ i, i < T.l.length → gt ord i < T.l.length) (hinj : ∀ i j, i < T.l.length → j < T.l.length → gt ord i = gt ord j → i = j) (honto : ∀ i, i < T.l.length → ∃ k, k < T.l.length ∧ gt ord k = i) {x : Tru} : x ∈ truL T ord T.l.length zeroT 0 ↔ Sol T x := by
  rw [truL_mem T ord T.l.length hinj _ _ _ _ (Nat.zero_add _)]
  constructor
  · rintro ⟨h1, h2⟩
    refine ⟨fun i hi => ?_, fun i j hi hj hij hh => ?_, fun i hi => ?_⟩
    · obtain ⟨k, hk, rfl⟩ := honto i hi
      exact (h1 k (Nat.zero_le _) hk).1
    · obtain ⟨k, hk, rfl⟩ := honto i hi
      obtain ⟨m, hm, rfl⟩ := honto j hj
      rcases Nat.lt_trichotomy k m with h | h | h
      · exact (h1 m (Nat.zero_le _) hm).2 k h hh
      · exact absurd (by rw [h]) hij
      · rw [nearB_comm]; exact (h1 k (Nat.zero_le _) hk).2 m h hh.symm
    · rw [h2 i fun k _ hk e => by have := hlt k hk; omega]; rfl
  · intro h
    refine ⟨fun k _ hk => ⟨h.pair _ (hlt k hk), fun j hj hh => h.apart _ _ (hlt j (by omega)) (hlt k hk) (fun e => by have := hinj _ _ (by omega) hk e; omega) hh⟩, fun i hi => ?_⟩
    rcases Nat.lt_or_ge i T.l.length with h1 | h1
    · obtain ⟨k, hk, e⟩ := honto i h1
      exact absurd e (hi k (Nat.zero_le _) hk)
    · exact h.rest i h1
theorem mem_allT {T : Tks} {x : Tru} : x ∈ allT T ↔ Sol T x := by
  unfold allT ordT
  exact sol_of (fun i hi => sortT_lt _ _ hi) (fun i j hi hj => sortT_inj _ _ hi hj) (fun i hi => sortT_onto _ _ hi)
def befT (t : Tru) (a b : Nat) : Bool := decide ((t a).1 < (t b).1 ∨ ((t a).1 = (t b).1 ∧ a < b))
def overT (t : Tru) (a b : Nat) : Bool := befT t b a && decide ((t a).2 < (t b).2)
def turnT (n : Nat) (t : Tru) (a : Nat) : Bool := !(List.range n).any (overT t a)
def gradeI (is not : Bool) : Int := if is && !not then 2 else if !is && not then 0 else 1
def longT : Nat → Tru → Int
  | 0, _ => 0
  | n + 1, t => max (longT n t) ((t n).2 - (t n).1)
def tksE (T : Tks) (is : Bool) : Int := if tksB T = false then 1 else if is = false then 2 else if (allT T).isEmpty then 10 else 0
end Go.Ti
namespace Go.Proofs.YtejgofaeafphjaaGreatDoor
open Go.W Go.Ti
theorem SA247 : StructAt Tryz.prog 247 [.int .i64 0] [(0, 1)] := ⟨⟨_, Tryz.zeroValue247, rfl⟩, _, Tryz.underlying247, fun w => by simp [Tryz.sizeOf51]⟩
@[reducible, instance] def ISA247 := SaF.mk SA247
theorem SA260 : StructAt Tryz.prog 260 [.int .i64 0] [(0, 1)] := ⟨⟨_, Tryz.zeroValue260, rfl⟩, _, Tryz.underlying260, fun w => by simp [Tryz.sizeOf51]⟩
@[reducible, instance] def ISA260 := SaF.mk SA260
def tickC (x : Tick) : List Value := [it x.bought.lo, it x.bought.hi, it x.hut, it x.door.lo, it x.door.hi]
def natC (x : Nat) : List Value := [nt x]
theorem tickC_len : ∀ x, (tickC x).length = 5 := fun _ => rfl
theorem natC_len : ∀ x, (natC x).length = 1 := fun _ => rfl
structure TksR (D : Imm) (T : Tks) (a1 : Option Addr) (n1 : Nat) : Prop where
  tick : SlL D 5 (T.l.map tickC) a1 n1
  len : n1 ≤ 1000
theorem TksR.ext {w : World} {D D' : Imm} (hD : DExt w D D') {T : Tks} {a1 : Option Addr} {n1 : Nat} (h : TksR D T a1 n1) : TksR D' T a1 n1 := ⟨h.tick.ext hD, h.len⟩
def stopK (e : Int) : List PanicEntry := [{ v := .iface 247 (.agg #[it e]), recovered := false }]
def stopT (e : Int) : List PanicEntry := [{ v := .iface 260 (.agg #[it e]), recovered := false }]
theorem withinK_g (n lo hi : Int) (w : World) : Gives Tryz.prog 173 [it n, it lo, it hi] w (.bool (inB n lo hi)) := by
  unfold Gives
  refine en Tryz.func173 rfl Tryz.ntmps173 zI (g [[1],[5,0,1,2],[5,6,0,1,2]] ?_)
  refine WL.part 10 rfl (fun g10 => ?_) (fun g10 => ?_)
  · try simp only [zq] at g10
    refine g [[8]] ?_
    refine WP.ret1 rfl rfl rfl (RV.tmp rfl) (fun w hI => ⟨ret_bool (by rw [Bool.eq_iff_iff]; simp [inB]; omega), hI.keep⟩)
  try simp only [zq] at g10
  refine g [[8]] ?_
  refine WP.ret1 rfl rfl rfl (RV.tmp rfl) (fun w hI => ⟨ret_bool (by rw [Bool.eq_iff_iff]; simp [inB]; omega), hI.keep⟩)
theorem mustK_ok (e : Int) (w : World) : Gives Tryz.prog 94 [.bool true, it e] w (.tuple #[]) := by
  unfold Gives
  refine en Tryz.func94 rfl Tryz.ntmps94 zI (g [[1],[7,0,1]] ?_)
  refine WP.ret0 rfl rfl rfl  (fun w hI => ⟨rfl, hI.keep⟩)
theorem mustK_no (e : Int) (w : World) : Fails Tryz.prog 94 [.bool false, it e] w (stopK e) := by
  unfold Fails
  refine en Tryz.func94 rfl Tryz.ntmps94 zI (g [[1],[6,0,1],[4,1]] ?_)
  refine WL.no (SO.panic rfl ?_)
  refine WP.panicBody rfl (fun w hI => ⟨rfl, hI.keep⟩)
theorem stoppedK_nil (v : Value) (w : World) : Gives Tryz.prog 87 [.nilIface, v] w (.tuple #[]) := by
  unfold Gives
  refine en Tryz.func87 rfl Tryz.ntmps87 zI (g [[2],[2,0,1]] ?_)
  refine WL.yd (Yd.eqlNilNil UnF.h rfl) rfl (g [[5]] ?_)
  refine WP.ret0 rfl rfl rfl  (fun w hI => ⟨rfl, hI.keep⟩)
theorem stoppedK_yes (e v0 : Int) (b : Nat) (t : TypeId) (w : World) (hb : w.heap[b]? = some (.cells (List.toArray [it v0]) t (0, 0))) : Calls Tryz.prog 87 (List.toArray [.iface 247 (.agg #[it e]), pt b]) w fun en w' => (en = .returned (.tuple #[]) ∧ Keep [b] w w') ∧ w'.heap[b]? = some (.cells (List.toArray [it e]) t (0, 0)) := by
  refine en Tryz.func87 rfl Tryz.ntmps87 (Inv.one hb) (g [[2],[2,0,1]] ?_)
  refine WL.yd (Yd.eqlNil UnF.h rfl) rfl (g [[6],[2,0,1]] ?_)
  refine WL.yd (Yd.assert UnF.h (by intro _ h; cases h) rfl) rfl (g [[3]] ?_)
  refine WL.so (SO.alloc ZvF.h rfl) rfl (zw fun b4 hb4 => ?_)
  refine g [[6],[8,5,4,0,1],[7,4,1]] ?_
  refine WP.ret0 rfl rfl rfl  (fun w hI => ⟨⟨rfl, hI.keep⟩, hI.own _ _ (List.mem_of_getElem? (i := 1) rfl)⟩)
theorem withinT_g (n lo hi : Int) (w : World) : Gives Tryz.prog 182 [it n, it lo, it hi] w (.bool (inB n lo hi)) := by
  unfold Gives
  refine en Tryz.func182 rfl Tryz.ntmps182 zI (g [[1],[5,0,1,2],[5,6,0,1,2]] ?_)
  refine WL.part 10 rfl (fun g10 => ?_) (fun g10 => ?_)
  · try simp only [zq] at g10
    refine g [[8]] ?_
    refine WP.ret1 rfl rfl rfl (RV.tmp rfl) (fun w hI => ⟨ret_bool (by rw [Bool.eq_iff_iff]; simp [inB]; omega), hI.keep⟩)
  try simp only [zq] at g10
  refine g [[8]] ?_
  refine WP.ret1 rfl rfl rfl (RV.tmp rfl) (fun w hI => ⟨ret_bool (by rw [Bool.eq_iff_iff]; simp [inB]; omega), hI.keep⟩)
theorem mustT_ok (e : Int) (w : World) : Gives Tryz.prog 181 [.bool true, it e] w (.tuple #[]) := by
  unfold Gives
  refine en Tryz.func181 rfl Tryz.ntmps181 zI (g [[1],[7,0,1]] ?_)
  refine WP.ret0 rfl rfl rfl  (fun w hI => ⟨rfl, hI.keep⟩)
theorem mustT_no (e : Int) (w : World) : Fails Tryz.prog 181 [.bool false, it e] w (stopT e) := by
  unfold Fails
  refine en Tryz.func181 rfl Tryz.ntmps181 zI (g [[1],[6,0,1],[4,1]] ?_)
  refine WL.no (SO.panic rfl ?_)
  refine WP.panicBody rfl (fun w hI => ⟨rfl, hI.keep⟩)
theorem stoppedT_nil (v : Value) (w : World) : Gives Tryz.prog 96 [.nilIface, v] w (.tuple #[]) := by
  unfold Gives
  refine en Tryz.func96 rfl Tryz.ntmps96 zI (g [[2],[2,0,1]] ?_)
  refine WL.yd (Yd.eqlNilNil UnF.h rfl) rfl (g [[5]] ?_)
  refine WP.ret0 rfl rfl rfl  (fun w hI => ⟨rfl, hI.keep⟩)
theorem stoppedT_yes (e v0 : Int) (b : Nat) (t : TypeId) (w : World) (hb : w.heap[b]? = some (.cells (List.toArray [it v0]) t (0, 0))) : Calls Tryz.prog 96 (List.toArray [.iface 260 (.agg #[it e]), pt b]) w fun en w' => (en = .returned (.tuple #[]) ∧ Keep [b] w w') ∧ w'.heap[b]? = some (.cells (List.toArray [it e]) t (0, 0)) := by
  refine en Tryz.func96 rfl Tryz.ntmps96 (Inv.one hb) (g [[2],[2,0,1]] ?_)
  refine WL.yd (Yd.eqlNil UnF.h rfl) rfl (g [[6],[2,0,1]] ?_)
  refine WL.yd (Yd.assert UnF.h (by intro _ h; cases h) rfl) rfl (g [[3]] ?_)
  refine WL.so (SO.alloc ZvF.h rfl) rfl (zw fun b4 hb4 => ?_)
  refine g [[6],[8,5,4,0,1],[7,4,1]] ?_
  refine WP.ret0 rfl rfl rfl  (fun w hI => ⟨⟨rfl, hI.keep⟩, hI.own _ _ (List.mem_of_getElem? (i := 1) rfl)⟩)
theorem idle116 (b : Nat) (w : World) : Idle Tryz.prog 116 [pt b] w := by
  refine callsD_of_wpS Tryz.func116 rfl fun c₀ cs hu => ?_
  apply wpS_region
  simp [wpOpsS, go_sem, recoverD, hu, Tryz.ntmps116]
  refine (stoppedK_nil (pt b) w).mono ?_
  rintro e w' ⟨rfl, hk⟩
  cases c₀
  simp only at hu
  subst hu
  simp [bodyPostS, results, Tryz.results116, hk]
theorem catch116 (b : Nat) (e v0 : Int) (t : TypeId) (w : World) (hb : w.heap[b]? = some (.cells (List.toArray [it v0]) t (0, 0))) : Catch Tryz.prog 116 [pt b] (.iface 247 (.agg #[it e])) b (.cells (List.toArray [it e]) t (0, 0)) w := by
  refine callsD_of_wpS Tryz.func116 rfl fun c₀ cs hu => ?_
  apply wpS_region
  simp [wpOpsS, go_sem, recoverD, hu, Tryz.ntmps116]
  refine (stoppedK_yes e v0 b t w hb).mono ?_
  rintro en w' ⟨⟨rfl, hk⟩, hb'⟩
  cases c₀
  simp only at hu
  subst hu
  simp [bodyPostS, results, Tryz.results116, hk, hb']
theorem idle241 (b : Nat) (w : World) : Idle Tryz.prog 241 [pt b] w := by
  refine callsD_of_wpS Tryz.func241 rfl fun c₀ cs hu => ?_
  apply wpS_region
  simp [wpOpsS, go_sem, recoverD, hu, Tryz.ntmps241]
  refine (stoppedK_nil (pt b) w).mono ?_
  rintro e w' ⟨rfl, hk⟩
  cases c₀
  simp only at hu
  subst hu
  simp [bodyPostS, results, Tryz.results241, hk]
theorem catch241 (b : Nat) (e v0 : Int) (t : TypeId) (w : World) (hb : w.heap[b]? = some (.cells (List.toArray [it v0]) t (0, 0))) : Catch Tryz.prog 241 [pt b] (.iface 247 (.agg #[it e])) b (.cells (List.toArray [it e]) t (0, 0)) w := by
  refine callsD_of_wpS Tryz.func241 rfl fun c₀ cs hu => ?_
  apply wpS_region
  simp [wpOpsS, go_sem, recoverD, hu, Tryz.ntmps241]
  refine (stoppedK_yes e v0 b t w hb).mono ?_
  rintro en w' ⟨⟨rfl, hk⟩, hb'⟩
  cases c₀
  simp only at hu
  subst hu
  simp [bodyPostS, results, Tryz.results241, hk, hb']
theorem idle351 (b : Nat) (w : World) : Idle Tryz.prog 351 [pt b] w := by
  refine callsD_of_wpS Tryz.func351 rfl fun c₀ cs hu => ?_
  apply wpS_region
  simp [wpOpsS, go_sem, recoverD, hu, Tryz.ntmps351]
  refine (stoppedK_nil (pt b) w).mono ?_
  rintro e w' ⟨rfl, hk⟩
  cases c₀
  simp only at hu
  subst hu
  simp [bodyPostS, results, Tryz.results351, hk]
theorem catch351 (b : Nat) (e v0 : Int) (t : TypeId) (w : World) (hb : w.heap[b]? = some (.cells (List.toArray [it v0]) t (0, 0))) : Catch Tryz.prog 351 [pt b] (.iface 247 (.agg #[it e])) b (.cells (List.toArray [it e]) t (0, 0)) w := by
  refine callsD_of_wpS Tryz.func351 rfl fun c₀ cs hu => ?_
  apply wpS_region
  simp [wpOpsS, go_sem, recoverD, hu, Tryz.ntmps351]
  refine (stoppedK_yes e v0 b t w hb).mono ?_
  rintro en w' ⟨⟨rfl, hk⟩, hb'⟩
  cases c₀
  simp only at hu
  subst hu
  simp [bodyPostS, results, Tryz.results351, hk, hb']
theorem idle145 (b : Nat) (w : World) : Idle Tryz.prog 145 [pt b] w := by
  refine callsD_of_wpS Tryz.func145 rfl fun c₀ cs hu => ?_
  apply wpS_region
  simp [wpOpsS, go_sem, recoverD, hu, Tryz.ntmps145]
  refine (stoppedT_nil (pt b) w).mono ?_
  rintro e w' ⟨rfl, hk⟩
  cases c₀
  simp only at hu
  subst hu
  simp [bodyPostS, results, Tryz.results145, hk]
theorem catch145 (b : Nat) (e v0 : Int) (t : TypeId) (w : World) (hb : w.heap[b]? = some (.cells (List.toArray [it v0]) t (0, 0))) : Catch Tryz.prog 145 [pt b] (.iface 260 (.agg #[it e])) b (.cells (List.toArray [it e]) t (0, 0)) w := by
  refine callsD_of_wpS Tryz.func145 rfl fun c₀ cs hu => ?_
  apply wpS_region
  simp [wpOpsS, go_sem, recoverD, hu, Tryz.ntmps145]
  refine (stoppedT_yes e v0 b t w hb).mono ?_
  rintro en w' ⟨⟨rfl, hk⟩, hb'⟩
  cases c₀
  simp only at hu
  subst hu
  simp [bodyPostS, results, Tryz.results145, hk, hb']
theorem idleM95 (b : Nat) (w : World) : IdleM Tryz.prog 95 [pt b] w := by
  refine callsDIn_of_wpS Tryz.func95 rfl fun c₀ cs hu => ?_
  apply wpS_region
  simp [wpOpsS, go_sem, recoverD, hu, Tryz.ntmps95]
  refine (stoppedT_nil (pt b) w).mono ?_
  rintro e w' ⟨rfl, hk⟩
  cases c₀
  simp only at hu
  subst hu
  simp [bodyPostS, results, Tryz.results95, hk]
theorem catch95 (b : Nat) (e v0 : Int) (t : TypeId) (w : World) (hb : w.heap[b]? = some (.cells (List.toArray [it v0]) t (0, 0))) : Catch Tryz.prog 95 [pt b] (.iface 260 (.agg #[it e])) b (.cells (List.toArray [it e]) t (0, 0)) w := by
  refine callsD_of_wpS Tryz.func95 rfl fun c₀ cs hu => ?_
  apply wpS_region
  simp [wpOpsS, go_sem, recoverD, hu, Tryz.ntmps95]
  refine (stoppedT_yes e v0 b t w hb).mono ?_
  rintro en w' ⟨⟨rfl, hk⟩, hb'⟩
  cases c₀
  simp only at hu
  subst hu
  simp [bodyPostS, results, Tryz.results95, hk, hb']
theorem idleM101 (b : Nat) (w : World) : IdleM Tryz.prog 101 [pt b] w := by
  refine callsDIn_of_wpS Tryz.func101 rfl fun c₀ cs hu => ?_
  apply wpS_region
  simp [wpOpsS, go_sem, recoverD, hu, Tryz.ntmps101]
  refine (stoppedT_nil (pt b) w).mono ?_
  rintro e w' ⟨rfl, hk⟩
  cases c₀
  simp only at hu
  subst hu
  simp [bodyPostS, results, Tryz.results101, hk]
theorem catch101 (b : Nat) (e v0 : Int) (t : TypeId) (w : World) (hb : w.heap[b]? = some (.cells (List.toArray [it v0]) t (0, 0))) : Catch Tryz.prog 101 [pt b] (.iface 260 (.agg #[it e])) b (.cells (List.toArray [it e]) t (0, 0)) w := by
  refine callsD_of_wpS Tryz.func101 rfl fun c₀ cs hu => ?_
  apply wpS_region
  simp [wpOpsS, go_sem, recoverD, hu, Tryz.ntmps101]
  refine (stoppedT_yes e v0 b t w hb).mono ?_
  rintro en w' ⟨⟨rfl, hk⟩, hb'⟩
  cases c₀
  simp only at hu
  subst hu
  simp [bodyPostS, results, Tryz.results101, hk, hb']
end Go.Proofs.YtejgofaeafphjaaGreatDoor
namespace Go.Proofs.YtejgofaeafphjaaGreatDoor
open Go.W Go.Ti
def datN (l : List Nat) (rest : List Value) : Obj := .cells (List.toArray (l.map nt ++ rest)) 3 (0, 0)
theorem swpN_mem {l : List Nat} {i j : Nat} (rest : List Value) (hi : i < l.length) (hj : j < l.length) : splice (splice (l.map nt ++ rest) (0 + i * 1) [nt (gt l j)]) (0 + j * 1) [nt (gt l i)] = (swp l i j).map nt ++ rest := by
  unfold swp
  rw [splice_dataN _ _ _ _ hi, splice_dataN _ _ _ _ (by simpa using hj)]
theorem st_twoN {l : List Nat} (rest : List Value) {i j x : Nat} (hi : i < l.length) (hj : j < l.length) : 0 + j * 1 + 1 ≤ (splice (l.map nt ++ rest) (0 + i * 1) [nt x]).length := by
  rw [splice_dataN _ _ _ _ hi]; exact len_dataN _ _ (by rw [List.length_set]; exact hj)
theorem sink_step {less : Nat → Nat → Bool} {j : Nat} {l : List Nat} (hj : 0 < j) (h : less (gt l j) (gt l (j - 1)) = true) : sink less (j - 1) (swp l j (j - 1)) = sink less j l := by
  obtain ⟨k, rfl⟩ : ∃ k, j = k + 1 := ⟨j - 1, by omega⟩
  rw [Nat.add_sub_cancel] at h ⊢
  rw [sink, if_pos h]
  rfl
theorem sink_stop {less : Nat → Nat → Bool} {j : Nat} {l : List Nat} (hj : 0 < j) (h : less (gt l j) (gt l (j - 1)) = false) : sink less j l = l := by
  obtain ⟨k, rfl⟩ : ∃ k, j = k + 1 := ⟨j - 1, by omega⟩
  rw [Nat.add_sub_cancel] at h
  rw [sink, if_neg (by rw [h]; simp)]
def InN (n : Nat) (l : List Nat) : Prop := l.length = n ∧ ∀ i, i < n → gt l i < n
theorem InN.swp {n : Nat} {l : List Nat} (h : InN n l) {i j : Nat} (hi : i < n) (hj : j < n) : InN n (swp l i j) := by
  refine ⟨by simp [Go.Ti.swp, h.1], fun k hk => ?_⟩
  rw [gt_swp (by rw [h.1]; exact hi) (by rw [h.1]; exact hj)]
  split
  · exact h.2 _ hi
  split
  · exact h.2 _ hj
  exact h.2 _ hk
theorem InN.sink {n : Nat} (less : Nat → Nat → Bool) : ∀ j (l : List Nat), InN n l → j < n → InN n (sink less j l) := by
  intro j
  induction j with
  | zero => intro l h _; exact h
  | succ j ih =>
    intro l h hj
    unfold Go.Ti.sink
    split
    · exact ih _ (h.swp hj (by omega)) (by omega)
    exact h
theorem InN.ins {n : Nat} (less : Nat → Nat → Bool) : ∀ k (l : List Nat), InN n l → k < n → InN n (insT less k l) := by
  intro k
  induction k with
  | zero => intro l h _; exact h
  | succ k ih => intro l h hk; exact InN.sink less _ _ (ih l h (by omega)) hk
theorem ins_g (less : Nat → Nat → Bool) (l : List Nat) (rest : List Value) (bd cap n0 : Nat) (D : Imm) (w : World) (hok : InN n0 l) (hl : n0 < 20) (fi : FuncId) (cp : List Value) (hfi : ∀ args w, (callFunc fi args).run Tryz.prog w = .ok (.enter fi args) w) (cr : Nat → Nat → Int) (hF : ∀ w', Holds D w' → ∀ i j, i < n0 → j < n0 → Gives Tryz.prog fi (nt i :: nt j :: cp) w' (it (cr i j))) (hcr : ∀ i j, i < n0 → j < n0 → decide (cr i j < 0) = less i j) (hI0 : Inv D [(bd, datN l rest)] [bd] w w) : Alters Tryz.prog 276 [.slice (some ⟨bd, 0, none⟩) n0 cap, nt 0, nt n0, .func (.func fi) #[] cp.toArray] w D [bd] (fun v D' hpc' => v = .tuple #[] ∧ D = D' ∧ hpc' = [(bd, datN (insT less (n0 - 1) l) rest)]) := by
  unfold Alters
  refine en Tryz.func276 rfl Tryz.ntmps276 hI0 (g [[1],[2,0,1,2,3]] ?_)
  refine WL.yd (Yd.addN rfl rfl (by (try dsimp only); omega)) rfl (g [[4]] ?_)
  refine WC.loop (fun k : Nat => [(0, .slice (some ⟨bd, 0, none⟩) n0 cap), (1, nt 0), (2, nt n0), (3, .func (.func fi) #[] cp.toArray), (8, nt (k + 1))]) (fun k => [(bd, datN (insT less k l) rest)]) (fun _ => D) (fun k => k ≤ n0 - 1) (fun k => n0 - k) 0 (by omega) (fun a w h => at_fr h ⟨rfl, rfl, rfl, rfl, rfl, trivial⟩) ?_
  intro k hk
  refine g [[2],[6,0,1,2,3,8]] ?_
  refine WC.cond rfl (fun c14 => ?_) (fun c14 => ?_)
  · try simp only [zq] at c14
    have hib : k + 1 < n0 := by omega
    have hok1 := InN.ins less k l hok (by omega)
    refine g [[5],[6,0,1,2,3,8]] ?_
    refine WC.loop (fun y : Nat × List Nat => [(0, .slice (some ⟨bd, 0, none⟩) n0 cap), (1, nt 0), (2, nt n0), (3, .func (.func fi) #[] cp.toArray), (8, nt (k + 1)), (9, nt y.1)]) (fun y => [(bd, datN y.2 rest)]) (fun _ => D) (fun y => sink less y.1 y.2 = insT less (k + 1) l ∧ InN n0 y.2 ∧ y.1 < n0) (fun y => y.1) (⟨k + 1, insT less k l⟩ : Nat × List Nat) ⟨rfl, hok1, hib⟩ (fun a w h => at_fr h ⟨rfl, rfl, rfl, rfl, rfl, rfl, trivial⟩) ?_
    rintro ⟨j, l3⟩ ⟨hw3, hok3, hj3⟩
    dsimp only at hw3 hok3 hj3
    refine g [[2],[0,0,1,2,3,8,9],[3014],[4]] ?_
    refine WQ.part 21 rfl (fun g21 => ?_) (fun g21 => ?_)
    · try simp only [zq] at g21
      have hja : 0 < j := by omega
      have hl3 := hok3.1
      have hp1 : gt l3 j < n0 := hok3.2 j (by omega)
      have hp2 : gt l3 (j - 1) < n0 := hok3.2 (j - 1) (by omega)
      have hcc := hcr _ _ hp1 hp2
      refine g [[3]] ?_
      refine WQ.qg rfl rfl (Yd.qt (Yd.indexS UnF.h SzF.h rfl rfl (by (try dsimp only); omega) (by (try dsimp only); omega) (rfl))) rfl ?_
      refine WQ.qg rfl rfl (Yd.qt (Yd.l1 rfl (rd_dataN (k := 0) rfl (by (try dsimp only); omega)))) rfl (g [[2]] ?_)
      refine WQ.qg rfl rfl (Yd.qt (Yd.subN rfl rfl (by (try dsimp only); omega) (by (try dsimp only); omega))) rfl ?_
      refine WQ.qg rfl rfl (Yd.qt (Yd.indexS UnF.h SzF.h rfl rfl (by (try dsimp only); omega) (by (try dsimp only); omega) (rfl))) rfl ?_
      refine WQ.qg rfl rfl (Yd.qt (Yd.l1 rfl (rd_dataN (k := 0) rfl (by (try dsimp only); omega)))) rfl (g [[1]] ?_)
      refine WL.sog rfl (SO.call (Enters.val hfi rfl rfl) (fun w hI => hF w hI.imm _ _ hp1 hp2)) rfl (zs (g [[4]] ?_))
      refine WC.cond rfl (fun c34 => ?_) (fun c34 => ?_)
      · try simp only [zq] at c34
        have hls : less (gt l3 j) (gt l3 (j - 1)) = true := by rw [← hcc]; exact decide_eq_true c34
        have hst := sink_step hja hls
        refine g [[4],[0,0,1,2,3,8,9]] ?_
        refine WC.drawH [] zk (fun _ hI => hI.drop 99) (g [[1000],[1001],[1002],[1003]] ?_)
        refine WH.yd (i := 4) zk zX rfl (Yd.subN rfl rfl (by (try dsimp only); omega) (by (try dsimp only); omega)) rfl (g [[1005],[1006]] ?_)
        refine WH.yd (i := 7) zk zX rfl (Yd.subN rfl rfl (by (try dsimp only); omega) (by (try dsimp only); omega)) rfl ?_
        refine WH.yd (i := 8) zk zX rfl (Yd.indexS UnF.h SzF.h rfl rfl (by (try dsimp only); omega) (by (try dsimp only); omega) (rfl)) rfl (g [[1010],[1011]] ?_)
        refine WH.yd (i := 12) zk zX rfl (Yd.indexS UnF.h SzF.h rfl rfl (by (try dsimp only); omega) (by (try dsimp only); omega) (rfl)) rfl ?_
        refine WH.two (i := 9) (j := 13) zk ?_ ?_
        · refine WHo.yd rfl (Yd.l1 rfl (rd_dataN (k := 0) rfl (by (try dsimp only); omega))) rfl ?_
          refine WH.one (i := 13) zk (WHo.yd rfl (Yd.l1 rfl (rd_dataN (k := 0) rfl (by (try dsimp only); omega))) rfl ?_)
          refine WH.yd (i := 14) zk zX rfl (Yd.indexS UnF.h SzF.h rfl rfl (by (try dsimp only); omega) (by (try dsimp only); omega) (rfl)) rfl ?_
          refine WH.one (i := 15) zk (WHo.so rfl (SO.store 0 rfl SzF.h rfl rfl rfl rfl (len_dataN _ _ (by (try dsimp only); omega)) (oneB_spec rfl)) rfl ?_)
          rintro _ _ _ ⟨rfl, rfl, rfl⟩
          refine ⟨(fun _ hI => hI.drop 99), ?_⟩
          refine WH.yd (i := 16) zk zX rfl (Yd.indexS UnF.h SzF.h rfl rfl (by (try dsimp only); omega) (by (try dsimp only); omega) (rfl)) rfl ?_
          refine WH.one (i := 17) zk (WHo.so rfl (SO.store 0 rfl SzF.h rfl rfl rfl rfl (st_twoN rest (by (try dsimp only); omega) (by (try dsimp only); omega)) (oneB_spec rfl)) rfl ?_)
          rintro _ _ _ ⟨rfl, rfl, rfl⟩
          refine ⟨(fun _ hI => hI.drop 99), ?_⟩
          refine WH.nil zk (g [[2],[2,0,1,2,3,8,9]] ?_)
          refine WL.yd (Yd.subN rfl rfl (by (try dsimp only); omega) (by (try dsimp only); omega)) rfl (g [[2]] ?_)
          refine WP.again (⟨j - 1, swp l3 j (j - 1)⟩ : Nat × List Nat) ⟨by rw [hst]; exact hw3, hok3.swp (by omega) (by omega), by simp only; omega⟩ (by simp only; omega) (fun aa ww h => ?_)
          show At _ [(0, .slice (some ⟨bd, 0, none⟩) n0 cap), (1, nt 0), (2, nt n0), (3, .func (.func fi) #[] cp.toArray), (8, nt (k + 1)), (9, nt (j - 1))] D [(bd, .cells (List.toArray ((swp l3 j (j - 1)).map nt ++ rest)) 3 (0, 0))] aa ww
          rw [← swpN_mem rest (by omega) (by omega)]
          exact at_fr h ⟨rfl, rfl, rfl, rfl, rfl, rfl, trivial⟩
        refine WHo.yd rfl (Yd.l1 rfl (rd_dataN (k := 0) rfl (by (try dsimp only); omega))) rfl ?_
        refine WH.one (i := 9) zk (WHo.yd rfl (Yd.l1 rfl (rd_dataN (k := 0) rfl (by (try dsimp only); omega))) rfl ?_)
        refine WH.yd (i := 14) zk zX rfl (Yd.indexS UnF.h SzF.h rfl rfl (by (try dsimp only); omega) (by (try dsimp only); omega) (rfl)) rfl ?_
        refine WH.one (i := 15) zk (WHo.so rfl (SO.store 0 rfl SzF.h rfl rfl rfl rfl (len_dataN _ _ (by (try dsimp only); omega)) (oneB_spec rfl)) rfl ?_)
        rintro _ _ _ ⟨rfl, rfl, rfl⟩
        refine ⟨(fun _ hI => hI.drop 99), ?_⟩
        refine WH.yd (i := 16) zk zX rfl (Yd.indexS UnF.h SzF.h rfl rfl (by (try dsimp only); omega) (by (try dsimp only); omega) (rfl)) rfl ?_
        refine WH.one (i := 17) zk (WHo.so rfl (SO.store 0 rfl SzF.h rfl rfl rfl rfl (st_twoN rest (by (try dsimp only); omega) (by (try dsimp only); omega)) (oneB_spec rfl)) rfl ?_)
        rintro _ _ _ ⟨rfl, rfl, rfl⟩
        refine ⟨(fun _ hI => hI.drop 99), ?_⟩
        refine WH.nil zk (g [[2],[2,0,1,2,3,8,9]] ?_)
        refine WL.yd (Yd.subN rfl rfl (by (try dsimp only); omega) (by (try dsimp only); omega)) rfl (g [[2]] ?_)
        refine WP.again (⟨j - 1, swp l3 j (j - 1)⟩ : Nat × List Nat) ⟨by rw [hst]; exact hw3, hok3.swp (by omega) (by omega), by simp only; omega⟩ (by simp only; omega) (fun aa ww h => ?_)
        show At _ [(0, .slice (some ⟨bd, 0, none⟩) n0 cap), (1, nt 0), (2, nt n0), (3, .func (.func fi) #[] cp.toArray), (8, nt (k + 1)), (9, nt (j - 1))] D [(bd, .cells (List.toArray ((swp l3 j (j - 1)).map nt ++ rest)) 3 (0, 0))] aa ww
        rw [← swpN_mem rest (by omega) (by omega)]
        exact at_fr h ⟨rfl, rfl, rfl, rfl, rfl, rfl, trivial⟩
      try simp only [zq] at c34
      have hls : less (gt l3 j) (gt l3 (j - 1)) = false := by rw [← hcc]; exact decide_eq_false (Int.not_lt.2 c34)
      obtain rfl : l3 = insT less (k + 1) l := (sink_stop hja hls).symm.trans hw3
      refine g [[6],[2,0,1,2,3,8]] ?_
      refine WL.yd (Yd.addN rfl rfl (by (try dsimp only); omega)) rfl (g [[2]] ?_)
      exact WP.again (k + 1) (by omega) (by omega) (fun aa ww h => at_fr h ⟨rfl, rfl, rfl, rfl, rfl, trivial⟩)
    try simp only [zq] at g21
    obtain rfl : j = 0 := by omega
    obtain rfl : l3 = insT less (k + 1) l := hw3
    refine g [[23],[2,0,1,2,3,8]] ?_
    refine WL.yd (Yd.addN rfl rfl (by (try dsimp only); omega)) rfl (g [[2]] ?_)
    exact WP.again (k + 1) (by omega) (by omega) (fun aa ww h => at_fr h ⟨rfl, rfl, rfl, rfl, rfl, trivial⟩)
  try simp only [zq] at c14
  have hib : ¬ k + 1 < n0 := by omega
  obtain rfl : k = n0 - 1 := by omega
  refine g [[4]] ?_
  refine WP.ret0 rfl rfl rfl  (fun w1 hI => ⟨_, D, _, rfl, DExt.refl _ _, hI, fun _ h => h, rfl, rfl, rfl⟩)
theorem stab_g (less : Nat → Nat → Bool) (l : List Nat) (rest : List Value) (bd cap n0 : Nat) (D : Imm) (w : World) (hok : InN n0 l) (hl : n0 < 20) (fi : FuncId) (cp : List Value) (hfi : ∀ args w, (callFunc fi args).run Tryz.prog w = .ok (.enter fi args) w) (cr : Nat → Nat → Int) (hF : ∀ w', Holds D w' → ∀ i j, i < n0 → j < n0 → Gives Tryz.prog fi (nt i :: nt j :: cp) w' (it (cr i j))) (hcr : ∀ i j, i < n0 → j < n0 → decide (cr i j < 0) = less i j) (hI0 : Inv D [(bd, datN l rest)] [bd] w w) : Alters Tryz.prog 239 [.slice (some ⟨bd, 0, none⟩) n0 cap, nt n0, .func (.func fi) #[] cp.toArray] w D [bd] (fun v D' hpc' => v = .tuple #[] ∧ D = D' ∧ hpc' = [(bd, datN (insT less (n0 - 1) l) rest)]) := by
  unfold Alters
  refine en Tryz.func239 rfl Tryz.ntmps239 hI0 (g [[1],[5,0,1,2],[8,6,0,1,2]] ?_)
  refine WC.loop (fun _ : Unit => [(0, .slice (some ⟨bd, 0, none⟩) n0 cap), (1, nt n0), (2, .func (.func fi) #[] cp.toArray), (6, nt 20), (7, nt 0), (8, nt 20)]) (fun _ => [(bd, datN l rest)]) (fun _ => D) (fun _ => True) (fun _ => 0) () trivial (fun a w h => at_fr h ⟨rfl, rfl, rfl, rfl, rfl, rfl, trivial⟩) ?_
  rintro ⟨⟩ -
  refine g [[2],[6,0,1,2,6,7,8]] ?_
  refine WC.cond rfl (fun c13 => ?_) (fun c13 => ?_)
  · try simp only [zq] at c13
    omega
  try simp only [zq] at c13
  refine g [[6],[5,0,1,2,6,7,8]] ?_
  refine WL.so (SO.alters (own := []) (hpc := [_]) (S1 := [bd]) (fun _ h => h) (fun h => h) (fun _ h => h) (fun _ h => h) (Enters.func CaF.h rfl) (fun w1 hI => ins_g less l rest bd cap n0 D w1 hok hl fi cp hfi cr hF hcr hI)) rfl ?_
  rintro _ _ _ ⟨_, _, ⟨rfl, rfl, rfl⟩, rfl⟩
  refine g [[3]] ?_
  refine WC.loop (fun _ : Unit => [(0, .slice (some ⟨bd, 0, none⟩) n0 cap), (1, nt n0), (2, .func (.func fi) #[] cp.toArray), (6, nt 20)]) (fun _ => [(bd, datN (insT less (n0 - 1) l) rest)]) (fun _ => D) (fun _ => True) (fun _ => 0) () trivial (fun a w h => at_fr h ⟨rfl, rfl, rfl, rfl, trivial⟩) ?_
  rintro ⟨⟩ -
  refine g [[2],[6,0,1,2,6]] ?_
  refine WC.cond rfl (fun c30 => ?_) (fun c30 => ?_)
  · try simp only [zq] at c30
    omega
  try simp only [zq] at c30
  refine g [[4]] ?_
  refine WP.ret0 rfl rfl rfl  (fun w1 hI => ⟨_, D, _, rfl, DExt.refl _ _, hI, fun _ h => h, rfl, rfl, rfl⟩)
theorem sort_g (less : Nat → Nat → Bool) (l : List Nat) (rest : List Value) (bd cap n0 : Nat) (D : Imm) (w : World) (hok : InN n0 l) (hl : n0 < 20) (fi : FuncId) (cp : List Value) (hfi : ∀ args w, (callFunc fi args).run Tryz.prog w = .ok (.enter fi args) w) (cr : Nat → Nat → Int) (hF : ∀ w', Holds D w' → ∀ i j, i < n0 → j < n0 → Gives Tryz.prog fi (nt i :: nt j :: cp) w' (it (cr i j))) (hcr : ∀ i j, i < n0 → j < n0 → decide (cr i j < 0) = less i j) (hI0 : Inv D [(bd, datN l rest)] [bd] w w) : Alters Tryz.prog 175 [.slice (some ⟨bd, 0, none⟩) n0 cap, .func (.func fi) #[] cp.toArray] w D [bd] (fun v D' hpc' => v = .tuple #[] ∧ D = D' ∧ hpc' = [(bd, datN (insT less (n0 - 1) l) rest)]) := by
  unfold Alters
  refine en Tryz.func175 rfl Tryz.ntmps175 hI0 (g [[5,0,1]] ?_)
  refine WL.so (SO.alters (own := []) (hpc := [_]) (S1 := [bd]) (fun _ h => h) (fun h => h) (fun _ h => h) (fun _ h => h) (Enters.func CaF.h rfl) (fun w1 hI => stab_g less l rest bd cap n0 D w1 hok hl fi cp hfi cr hF hcr hI)) rfl ?_
  rintro _ _ _ ⟨_, _, ⟨rfl, rfl, rfl⟩, rfl⟩
  refine g [[1]] ?_
  refine WP.ret0 rfl rfl rfl  (fun w1 hI => ⟨_, D, _, rfl, DExt.refl _ _, hI, fun _ h => h, rfl, rfl, rfl⟩)
theorem ins_0 (a3 : Option Addr) (c3 : Nat) (cv : Value) (w : World) : Gives Tryz.prog 276 [.slice a3 0 c3, nt 0, nt 0, cv] w (.tuple #[]) := by
  unfold Gives
  refine en Tryz.func276 rfl Tryz.ntmps276 zI (g [[1],[2,0,1,2,3]] ?_)
  refine WL.yd (Yd.addN (i := 0) (j := 1) rfl rfl (by omega)) rfl (g [[4]] ?_)
  refine WC.loopF (fun _ : Unit => [(0, .slice a3 0 c3), (1, nt 0), (2, nt 0), (3, cv), (8, nt 1)]) (fun _ => True) (fun _ => 0) () trivial ⟨rfl, rfl, rfl, rfl, rfl, trivial⟩ ?_
  rintro ⟨⟩ -
  refine g [[2],[6,0,1,2,3,8]] ?_
  refine WC.cond rfl (fun c14 => ?_) (fun c14 => ?_)
  · try simp only [zq] at c14
    omega
  try simp only [zq] at c14
  refine g [[4]] ?_
  refine WP.ret0 rfl rfl rfl  (fun w hI => ⟨rfl, hI.keep⟩)
theorem stab_0 (a3 : Option Addr) (c3 : Nat) (cv : Value) (w : World) : Gives Tryz.prog 239 [.slice a3 0 c3, nt 0, cv] w (.tuple #[]) := by
  unfold Gives
  refine en Tryz.func239 rfl Tryz.ntmps239 zI (g [[1],[5,0,1,2],[8,6,0,1,2]] ?_)
  refine WC.loopF (fun _ : Unit => [(0, .slice a3 0 c3), (1, nt 0), (2, cv), (6, nt 20), (7, nt 0), (8, nt 20)]) (fun _ => True) (fun _ => 0) () trivial ⟨rfl, rfl, rfl, rfl, rfl, rfl, trivial⟩ ?_
  rintro ⟨⟩ -
  refine g [[2],[6,0,1,2,6,7,8]] ?_
  refine WC.cond rfl (fun c13 => ?_) (fun c13 => ?_)
  · try simp only [zq] at c13
    omega
  try simp only [zq] at c13
  refine g [[6],[5,0,1,2,6,7,8]] ?_
  refine WL.cl rfl (fun w hI => ins_0 _ _ _ _) (g [[3]] ?_)
  refine WC.loopF (fun _ : Unit => [(0, .slice a3 0 c3), (1, nt 0), (2, cv), (6, nt 20)]) (fun _ => True) (fun _ => 0) () trivial ⟨rfl, rfl, rfl, rfl, trivial⟩ ?_
  rintro ⟨⟩ -
  refine g [[2],[6,0,1,2,6]] ?_
  refine WC.cond rfl (fun c30 => ?_) (fun c30 => ?_)
  · try simp only [zq] at c30
    omega
  try simp only [zq] at c30
  refine g [[4]] ?_
  refine WP.ret0 rfl rfl rfl  (fun w hI => ⟨rfl, hI.keep⟩)
theorem sort_0 (a3 : Option Addr) (c3 : Nat) (cv : Value) (w : World) : Gives Tryz.prog 175 [.slice a3 0 c3, cv] w (.tuple #[]) := by
  unfold Gives
  refine en Tryz.func175 rfl Tryz.ntmps175 zI (g [[5,0,1]] ?_)
  refine WL.cl rfl (fun w hI => stab_0 _ _ _ _) (g [[1]] ?_)
  refine WP.ret0 rfl rfl rfl  (fun w hI => ⟨rfl, hI.keep⟩)
end Go.Proofs.YtejgofaeafphjaaGreatDoor
namespace Go.Proofs.YtejgofaeafphjaaGreatDoor
open Go.W Go.Ti
theorem SA250 : StructAt Tryz.prog 250 [.int .i64 0, .slice none 0 0, .slice none 0 0] [(0, 2), (2, 1)] := ⟨⟨_, Tryz.zeroValue250, rfl⟩, _, Tryz.underlying250, fun w => by simp [Tryz.sizeOf24, Tryz.sizeOf94]⟩
@[reducible, instance] def ISA250 := SaF.mk SA250
theorem flat_nt (l : List Nat) : l.flatMap natC = l.map nt := by
  induction l with
  | nil => rfl
  | cons x l ih => rw [List.flatMap_cons, ih]; rfl
theorem sortO_g (less : Nat → Nat → Bool) (l : List Nat) (o : Option Ow) (n0 : Nat) (D : Imm) (w w0 : World) (hok : InN n0 l) (hl : n0 < 20) (ho : owP w0 o n0 1) (fi : FuncId) (cp : List Value) (hfi : ∀ args w, (callFunc fi args).run Tryz.prog w = .ok (.enter fi args) w) (cr : Nat → Nat → Int) (hF : ∀ w', Holds D w' → ∀ i j, i < n0 → j < n0 → Gives Tryz.prog fi (nt i :: nt j :: cp) w' (it (cr i j))) (hcr : ∀ i j, i < n0 → j < n0 → decide (cr i j < 0) = less i j) (hI0 : Inv D (owH o 3 (l.map nt) []) (keys (owH o 3 (l.map nt) [])) w w) :
    Alters Tryz.prog 175 [owV o n0, .func (.func fi) #[] cp.toArray] w D (keys (owH o 3 (l.map nt) [])) (fun v D' hpc' => v = .tuple #[] ∧ D = D' ∧ hpc' = owH o 3 ((insT less (n0 - 1) l).map nt) []) := by
  cases o with
  | none =>
    have h0 : n0 = 0 := ho
    subst h0
    have hl0 : l = [] := List.eq_nil_of_length_eq_zero hok.1
    subst hl0
    refine (sort_0 none 0 _ w).mono ?_
    rintro e w' ⟨rfl, hk⟩
    exact ⟨_, D, [], rfl, DExt.refl _ _, hI0.call hk, fun _ h => h, rfl, rfl, rfl⟩
  | some u => exact sort_g less l u.rest u.b u.cap n0 D w hok hl fi cp hfi cr hF hcr hI0
theorem tick_no {T : Tks} {x : Tick} (h : tickB T x = true) : hutT T x.hut = true ∧ spanT x.bought = true ∧ spanT x.door = true := by
  simpa only [tickB, Bool.and_eq_true, and_assoc] using h
def boxT (T : Tks) (s1 : Value) : Obj := .cells (List.toArray [it T.huts, s1]) 24 (0, 0)
def offO (T : Tks) (s1 s3 : Value) : Obj := .cells (List.toArray [it T.huts, s1, s3]) 250 (0, 0)
def OffAt (D : Imm) (q : Nat) (T : Tks) (s1 : Value) : Prop := ∃ a3 c3, D q = some (offO T s1 (.slice a3 T.l.length c3)) ∧ SlL D 1 ((ordT T).map natC) a3 T.l.length ∧ T.l.length ≤ c3
theorem owCp_le {w0 : World} {o : Option Ow} {n m : Nat} (h : owP w0 o n m) : n ≤ owCp o n := by
  cases o with
  | none => exact Nat.le_of_eq h
  | some u => exact h.2.1
theorem OffAt.ext {w : World} {D D' : Imm} (hD : DExt w D D') {q : Nat} {T : Tks} {s1 : Value} (h : OffAt D q T s1) : OffAt D' q T s1 := by
  obtain ⟨a3, c3, h1, h2, h3⟩ := h
  exact ⟨a3, c3, hD.old _ _ h1, h2.ext hD, h3⟩
def OpenR (T : Tks) (s1 : Value) (is : Bool) (D : Imm) (w : World) (e : Ending) (w' : World) : Prop :=
  (tksB T = false → e = .panicked (stopK 1) ∧ Keep [] w w') ∧ (tksB T = true → is = false → e = .panicked (stopK 2) ∧ Keep [] w w') ∧
  (tksB T = true → is = true → ∃ q D', e = .returned (pt q) ∧ Keep [] w w' ∧ Holds D' w' ∧ DExt w D D' ∧ OffAt D' q T s1)
theorem isSpan_g (s : Sp) (w : World) : Gives Tryz.prog 174 [.agg #[it s.lo, it s.hi]] w (.bool (spanT s)) := by
  unfold Gives
  have hfit : True := trivial
  refine en Tryz.func174 rfl Tryz.ntmps174 zI (g [[1],[1,0]] ?_)
  refine WL.so (SO.box rfl rfl) rfl (zw fun b1 hb1 => ?_)
  refine g [[4],[5,2,1]] ?_
  refine WL.part 6 rfl (fun g6 => ?_) (fun g6 => ?_)
  · try simp only [zq] at g6
    refine g [[7]] ?_
    refine WL.part 13 rfl (fun g13 => ?_) (fun g13 => ?_)
    · try simp only [zq] at g13
      refine g [[5]] ?_
      refine WL.part 18 rfl (fun g18 => ?_) (fun g18 => ?_)
      · try simp only [zq] at g18
        refine g [[4]] ?_
        refine WL.ydg rfl (Yd.sub rfl rfl (wr64 ⟨by first | omega | (simp_all; omega), by first | omega | (simp_all; omega)⟩)) rfl (g [[6]] ?_)
        refine WP.ret1 rfl rfl rfl (RV.tmp rfl) (fun w hI => ⟨ret_bool (by rw [Bool.eq_iff_iff]; simp_all [spanT]; try omega), hI.keep⟩)
      try simp only [zq] at g18
      refine g [[11]] ?_
      refine WP.ret1 rfl rfl rfl (RV.tmp rfl) (fun w hI => ⟨ret_bool (by rw [Bool.eq_iff_iff]; simp_all [spanT]; try omega), hI.keep⟩)
    try simp only [zq] at g13
    refine g [[16]] ?_
    refine WP.ret1 rfl rfl rfl (RV.tmp rfl) (fun w hI => ⟨ret_bool (by rw [Bool.eq_iff_iff]; simp_all [spanT]; try omega), hI.keep⟩)
  try simp only [zq] at g6
  refine g [[23]] ?_
  refine WP.ret1 rfl rfl rfl (RV.tmp rfl) (fun w hI => ⟨ret_bool (by rw [Bool.eq_iff_iff]; simp_all [spanT]; try omega), hI.keep⟩)
theorem isTick_g (T : Tks) (a1 : Option Addr) (n1 c1 : Nat) (n : Int) (w : World) (hn : n1 = T.l.length) (hl : n1 ≤ 1000) : Gives Tryz.prog 117 [.agg #[it T.huts, .slice a1 n1 c1], it n] w (.bool (isT T n)) := by
  unfold Gives
  refine en Tryz.func117 rfl Tryz.ntmps117 zI (g [[1],[1,0,1]] ?_)
  refine WL.so (SO.box rfl rfl) rfl (zw fun b2 hb2 => ?_)
  refine g [[4],[6,4,2,1]] ?_
  refine WL.cl rfl (fun w hI => withinK_g _ _ _ _) (g [[4]] ?_)
  refine WP.ret1 rfl rfl rfl (RV.tmp rfl) (fun w hI => ⟨ret_bool (by subst hn; rfl), hI.keep⟩)
theorem cmp_g (T : Tks) (a1 : Option Addr) (c1 : Nat) (D : Imm) (b2 : Nat) (hR : TksR D T a1 T.l.length) (h2 : D b2 = some (boxT T (.slice a1 T.l.length c1))) (hv : tksB T = true) (w : World) (hH : Holds D w) (i j : Nat) (hi : i < T.l.length) (hj : j < T.l.length) : Gives Tryz.prog 176 [nt i, nt j, pt b2] w (it ((gt T.l i).hut - (gt T.l j).hut)) := by
  unfold Gives
  obtain ⟨⟨hh1, hh2⟩, hn5, hnum⟩ := tks_num hv
  have hx1 := (hnum i hi).1
  have hx2 := (hnum j hj).1
  refine en Tryz.func176 rfl Tryz.ntmps176 (Inv.start hH) (g [[1],[5,0,1,2],[0,5,0,1,2],[3012],[3]] ?_)
  refine WQ.q rfl (Yd.qt (Yd.ix rfl rfl (hR.tick.addr i (by omega)))) rfl (g [[1]] ?_)
  refine WQ.q rfl (Yd.qt (Yd.l1 rfl ((hR.tick.at i (by omega)).rd 2 rfl))) rfl (g [[3]] ?_)
  refine WQ.q rfl (Yd.qt (Yd.ix rfl rfl (hR.tick.addr i (by omega)))) rfl (g [[1]] ?_)
  refine WQ.q rfl (Yd.qt (Yd.l1 rfl ((hR.tick.at j (by omega)).rd 2 rfl))) rfl (g [[6]] ?_)
  refine WP.ret1 rfl rfl rfl (RV.tmp rfl) (fun w hI => ⟨rfl, hI.keep⟩)
theorem open_g (T : Tks) (a1 : Option Addr) (n1 c1 : Nat) (D : Imm) (w : World) (hR : TksR D T a1 n1) (hH : Holds D w) (is : Bool) : Calls Tryz.prog 88 (List.toArray [.agg #[it T.huts, .slice a1 n1 c1], .bool is]) w fun e w' => OpenR T (.slice a1 n1 c1) is D w e w' := by
  obtain rfl := hR.tick.len'
  have hl1 := hR.len
  refine en Tryz.func88 rfl Tryz.ntmps88 (Inv.start hH) (g [[1],[1,0,1]] ?_)
  refine WL.so (SO.box rfl rfl) rfl (zw fun b2 hb2 => ?_)
  refine g [[4],[3,4,2,1]] ?_
  refine WL.cl rfl (fun w hI => withinK_g _ _ _ _) (g [[1]] ?_)
  refine WL.part 12 rfl (fun g12 => ?_) (fun g12 => ?_)
  · try simp only [zq] at g12
    have hh12 : 1 ≤ T.huts ∧ T.huts ≤ 4 := of_decide_eq_true g12
    refine g [[5]] ?_
    refine WL.part 17 rfl (fun g17 => ?_) (fun g17 => ?_)
    · try simp only [zq] at g17
      refine WL.cl rfl (fun w hI => mustK_ok _ _) (g [[3],[5,4,2,1],[3,5,4,2,1]] ?_)
      refine WL.so (SO.box rfl rfl) rfl (zw fun b21 hb21 => ?_)
      refine g [[5],[8,6,5,4,2,1]] ?_
      refine WC.loop (fun y : Nat × Option Ow => [(1, .bool is), (2, pt b2), (5, .func (.func 174) #[] #[]), (6, pt b21), (23, .slice a1 T.l.length c1), (24, nt T.l.length), (25, nt y.1)]) (fun y => ((b21, offO T (.slice a1 T.l.length c1) (owV y.2 y.1)) :: (b2, boxT T (.slice a1 T.l.length c1)) :: owH y.2 3 ((List.range y.1).map nt) [])) (fun _ => D) (fun y => y.1 ≤ T.l.length ∧ owP w y.2 y.1 1 ∧ ∀ i, i < y.1 → tickB T (gt T.l i) = true) (fun y => T.l.length - y.1) (0, none) ⟨by omega, rfl, by intro i hi; omega⟩ (fun a w h => at_fr h ⟨rfl, rfl, rfl, rfl, rfl, rfl, rfl, trivial⟩) ?_
      rintro ⟨k, o⟩ ⟨hk, ho, hd⟩
      dsimp only at hk ho hd
      refine g [[1],[5,1,2,5,6,23,24,25]] ?_
      refine WC.cond rfl (fun c26 => ?_) (fun c26 => ?_)
      · try simp only [zq] at c26
        refine g [[5],[2,1,2,5,6,23,24,25]] ?_
        refine WL.yd (Yd.ix rfl rfl (hR.tick.addr k (by omega))) rfl (WL.yd (Yd.lV [_, _, _, _, _] rfl ((hR.tick.at k (by omega)).rdn 0 5 rfl)) rfl ?_)
        refine WL.so (SO.alloc ZvF.h rfl) rfl (zw fun b8 hb8 => ?_)
        refine g [[5],[6,7,8,1,2,5,6,23,24,25]] ?_
        refine WL.cl rfl (fun w hI => withinK_g _ _ _ _) (g [[1]] ?_)
        refine WL.part 36 rfl (fun g36 => ?_) (fun g36 => ?_)
        · try simp only [zq] at g36
          refine g [[3]] ?_
          refine WL.sog rfl (SO.call (Enters.val CaF.h rfl rfl) (fun w hI => isSpan_g ⟨_, _⟩ _)) rfl (zs (g [[2]] ?_))
          refine WL.part 42 rfl (fun g42 => ?_) (fun g42 => ?_)
          · try simp only [zq] at g42
            refine g [[3]] ?_
            refine WL.sog rfl (SO.call (Enters.val CaF.h rfl rfl) (fun w hI => isSpan_g ⟨_, _⟩ _)) rfl (zs (g [[1]] ?_))
            refine WL.part 47 rfl (fun g47 => ?_) (fun g47 => ?_)
            · try simp only [zq] at g47
              refine WL.cl rfl (fun w hI => mustK_ok _ _) (g [[2],[7,7,1,2,5,6,23,24,25]] ?_)
              refine WL.so (SO.buildSlice UnF.h SzF.h ZvF.h rfl rfl rfl rfl (cs := [_]) rfl) rfl ?_
              rintro _ _ _ ⟨b55, hb55, rfl, rfl, rfl⟩
              refine WL.so (SO.appendOw (o := o) (len := k) (n := 1) (xs := ((List.range k).map nt)) (size := 1) [_] [_, _, _] [] rfl rfl Tryz.underlying94 Tryz.sizeOf3 Tryz.typeInfo3 Tryz.zeroValue3 rfl rfl rfl rfl ⟨rfl, .inr ⟨_, _, _, rfl, RdN.own (k := 0) (n := 1) rfl rfl⟩⟩ (oneB_spec rfl) ho (by simp) (by omega) (by show (2 * (_ + _) + 1000) * 8 ≤ 2 ^ 48; omega) (by omega)) rfl ?_
              rintro _ _ _ ⟨u1, hu1, rfl, rfl, rfl⟩
              refine g [[6],[4,1,2,5,6,23,24,25]] ?_
              refine WP.again (⟨k + 1, some u1⟩ : Nat × Option Ow) ⟨by simp only; omega, hu1, ext_round hd (by simp_all [tickB, hutT, inB])⟩ (by simp only; omega) (fun aa ww h => ?_)
              have hrs : (List.range (k + 1)).map nt = (List.range k).map nt ++ [nt k] := by rw [List.range_succ, List.map_append]; rfl
              show At _ [(1, .bool is), (2, pt b2), (5, .func (.func 174) #[] #[]), (6, pt b21), (23, .slice a1 T.l.length c1), (24, nt T.l.length), (25, nt (k + 1))] D ((b21, offO T (.slice a1 T.l.length c1) (owV (some u1) (k + 1))) :: (b2, boxT T (.slice a1 T.l.length c1)) :: owH (some u1) 3 ((List.range (k + 1)).map nt) []) aa ww
              rw [hrs]
              exact at_less h ⟨rfl, rfl, rfl, rfl, rfl, rfl, rfl, trivial⟩ (fun _ h => List.mem_cons_of_mem _ h) (fun h => (List.nodup_cons.1 h).2)
            try simp only [zq] at g47
            refine WL.nf rfl (fun w hI => mustK_no _ _) (g [[6]] ?_)
            first
              | exact WP.panicBody rfl (fun w hI => ⟨fun h => absurd (hok.symm.trans h) (by decide), fun _ _ => ⟨rfl, hI.keep⟩, fun _ h => by rw [g60] at h; cases h⟩)
              | (refine WP.panicBody rfl (fun w hI => ?_)
                 have hno : tksB T = false := by
                   cases hdb : tksB T with
                   | false => rfl
                   | true =>
                     exfalso
                     obtain ⟨h1, h2, h3⟩ := (tksB_iff T).1 hdb
                     first | (simp_all [inB]; done) | (simp_all [inB]; omega) | exact Bool.noConfusion ((tick_no (h3 k (by omega))).1.symm.trans g36 : true = false) | exact Bool.noConfusion ((tick_no (h3 k (by omega))).2.1.symm.trans g42 : true = false) | exact Bool.noConfusion ((tick_no (h3 k (by omega))).2.2.symm.trans g47 : true = false)
                 exact ⟨fun _ => ⟨rfl, hI.keep⟩, fun h => absurd (hno.symm.trans h) (by decide), fun h => absurd (hno.symm.trans h) (by decide)⟩)
          try simp only [zq] at g42
          refine g [[5]] ?_
          refine WL.nf rfl (fun w hI => mustK_no _ _) (g [[6]] ?_)
          first
            | exact WP.panicBody rfl (fun w hI => ⟨fun h => absurd (hok.symm.trans h) (by decide), fun _ _ => ⟨rfl, hI.keep⟩, fun _ h => by rw [g60] at h; cases h⟩)
            | (refine WP.panicBody rfl (fun w hI => ?_)
               have hno : tksB T = false := by
                 cases hdb : tksB T with
                 | false => rfl
                 | true =>
                   exfalso
                   obtain ⟨h1, h2, h3⟩ := (tksB_iff T).1 hdb
                   first | (simp_all [inB]; done) | (simp_all [inB]; omega) | exact Bool.noConfusion ((tick_no (h3 k (by omega))).1.symm.trans g36 : true = false) | exact Bool.noConfusion ((tick_no (h3 k (by omega))).2.1.symm.trans g42 : true = false) | exact Bool.noConfusion ((tick_no (h3 k (by omega))).2.2.symm.trans g47 : true = false)
               exact ⟨fun _ => ⟨rfl, hI.keep⟩, fun h => absurd (hno.symm.trans h) (by decide), fun h => absurd (hno.symm.trans h) (by decide)⟩)
        try simp only [zq] at g36
        refine g [[11]] ?_
        refine WL.nf rfl (fun w hI => mustK_no _ _) (g [[6]] ?_)
        first
          | exact WP.panicBody rfl (fun w hI => ⟨fun h => absurd (hok.symm.trans h) (by decide), fun _ _ => ⟨rfl, hI.keep⟩, fun _ h => by rw [g60] at h; cases h⟩)
          | (refine WP.panicBody rfl (fun w hI => ?_)
             have hno : tksB T = false := by
               cases hdb : tksB T with
               | false => rfl
               | true =>
                 exfalso
                 obtain ⟨h1, h2, h3⟩ := (tksB_iff T).1 hdb
                 first | (simp_all [inB]; done) | (simp_all [inB]; omega) | exact Bool.noConfusion ((tick_no (h3 k (by omega))).1.symm.trans g36 : true = false) | exact Bool.noConfusion ((tick_no (h3 k (by omega))).2.1.symm.trans g42 : true = false) | exact Bool.noConfusion ((tick_no (h3 k (by omega))).2.2.symm.trans g47 : true = false)
             exact ⟨fun _ => ⟨rfl, hI.keep⟩, fun h => absurd (hno.symm.trans h) (by decide), fun h => absurd (hno.symm.trans h) (by decide)⟩)
      try simp only [zq] at c26
      refine g [[6]] ?_
      obtain rfl : k = T.l.length := by omega
      have hok : tksB T = true := (tksB_iff T).2 ⟨by simp_all [inB], by omega, hd⟩
      refine g [[2,1,2,6]] ?_
      refine WL.part 60 rfl (fun g60 => ?_) (fun g60 => ?_)
      · try simp only [zq] at g60
        refine WL.cl rfl (fun w hI => mustK_ok _ _) (g [[3],[6,2,6]] ?_)
        refine WL.freezeK 1 rfl (fun hn2 => ?_)
        have hF2 := fun o => (DExt.refl w D).add (o := o) hn2 hb2
        refine WL.so (SO.alters (own := [_]) (hpc := owH o 3 ((List.range T.l.length).map nt) []) (S1 := keys (owH o 3 ((List.range T.l.length).map nt) [])) (fun _ h => h) (fun h => h) (fun _ h => h) (fun _ h => h) (Enters.func CaF.h rfl) (fun w1 hI => sortO_g (byKey (hutKey T)) (List.range T.l.length) o T.l.length _ w1 w ⟨by simp, fun i hi => by rw [gt_range hi]; exact hi⟩ (by omega) ho 176 [pt b2] CaF.h (fun i j => (gt T.l i).hut - (gt T.l j).hut) (fun w' hH' i j hi hj => cmp_g T a1 c1 _ b2 (hR.ext (hF2 _)) (Imm.add_self _ _ _) hok w' hH' i j hi hj) (fun i j _ _ => by unfold byKey hutKey; congr 1; apply propext; omega) hI)) rfl ?_
        rintro _ _ _ ⟨_, _, ⟨rfl, rfl, rfl⟩, rfl⟩
        refine g [[3],[1,6]] ?_
        have hso : (sortT (hutKey T) T.l.length).length = T.l.length := sortT_len _ _
        refine WL.freezeOw (f := natC) (m := 1) natC_len [_] [] o 3 (ordT T) rfl (by show owP w o (sortT (hutKey T) T.l.length).length 1; rw [hso]; exact ho) (by rw [flat_nt]; rfl) (fun D2 hX2 hS2 => ?_)
        refine g [[5]] ?_
        refine WP.ret1 rfl rfl rfl (RV.tmp rfl) (fun w1 hI => ⟨fun h => absurd (hok.symm.trans h) (by decide), fun _ h => (by rw [g60] at h; cases h), fun _ _ => ⟨_, _, rfl, hI.keep, hI.freeze.imm, (((hF2 _).trans hX2 (Nat.le_refl _)).add (hI.apart _ _ (List.mem_of_getElem? (i := 0) rfl)) hb21), _, _, by rw [owV_owL (owL_of ho)]; exact Imm.add_self _ _ _, by
          have h9 := hS2.ext ((DExt.refl w D2).add (o := offO T (.slice a1 T.l.length c1) (owV o T.l.length)) (hI.apart _ _ (List.mem_of_getElem? (i := 0) rfl)) hb21)
          rw [show (ordT T).length = T.l.length from hso] at h9
          exact ⟨h9, owCp_le ho⟩⟩⟩)
      try simp only [zq] at g60
      refine WL.nf rfl (fun w hI => mustK_no _ _) (g [[1]] ?_)
      first
        | exact WP.panicBody rfl (fun w hI => ⟨fun h => absurd (hok.symm.trans h) (by decide), fun _ _ => ⟨rfl, hI.keep⟩, fun _ h => by rw [g60] at h; cases h⟩)
        | (refine WP.panicBody rfl (fun w hI => ?_)
           have hno : tksB T = false := by
             cases hdb : tksB T with
             | false => rfl
             | true =>
               exfalso
               obtain ⟨h1, h2, h3⟩ := (tksB_iff T).1 hdb
               first | (simp_all [inB]; done) | (simp_all [inB]; omega) | exact Bool.noConfusion ((tick_no (h3 k (by omega))).1.symm.trans g36 : true = false) | exact Bool.noConfusion ((tick_no (h3 k (by omega))).2.1.symm.trans g42 : true = false) | exact Bool.noConfusion ((tick_no (h3 k (by omega))).2.2.symm.trans g47 : true = false)
           exact ⟨fun _ => ⟨rfl, hI.keep⟩, fun h => absurd (hno.symm.trans h) (by decide), fun h => absurd (hno.symm.trans h) (by decide)⟩)
    try simp only [zq] at g17
    refine WL.nf rfl (fun w hI => mustK_no _ _) (g [[1]] ?_)
    first
      | exact WP.panicBody rfl (fun w hI => ⟨fun h => absurd (hok.symm.trans h) (by decide), fun _ _ => ⟨rfl, hI.keep⟩, fun _ h => by rw [g60] at h; cases h⟩)
      | (refine WP.panicBody rfl (fun w hI => ?_)
         have hno : tksB T = false := by
           cases hdb : tksB T with
           | false => rfl
           | true =>
             exfalso
             obtain ⟨h1, h2, h3⟩ := (tksB_iff T).1 hdb
             first | (simp_all [inB]; done) | (simp_all [inB]; omega) | exact Bool.noConfusion ((tick_no (h3 k (by omega))).1.symm.trans g36 : true = false) | exact Bool.noConfusion ((tick_no (h3 k (by omega))).2.1.symm.trans g42 : true = false) | exact Bool.noConfusion ((tick_no (h3 k (by omega))).2.2.symm.trans g47 : true = false)
         exact ⟨fun _ => ⟨rfl, hI.keep⟩, fun h => absurd (hno.symm.trans h) (by decide), fun h => absurd (hno.symm.trans h) (by decide)⟩)
  try simp only [zq] at g12
  refine g [[5]] ?_
  refine WL.nf rfl (fun w hI => mustK_no _ _) (g [[1]] ?_)
  first
    | exact WP.panicBody rfl (fun w hI => ⟨fun h => absurd (hok.symm.trans h) (by decide), fun _ _ => ⟨rfl, hI.keep⟩, fun _ h => by rw [g60] at h; cases h⟩)
    | (refine WP.panicBody rfl (fun w hI => ?_)
       have hno : tksB T = false := by
         cases hdb : tksB T with
         | false => rfl
         | true =>
           exfalso
           obtain ⟨h1, h2, h3⟩ := (tksB_iff T).1 hdb
           first | (simp_all [inB]; done) | (simp_all [inB]; omega) | exact Bool.noConfusion ((tick_no (h3 k (by omega))).1.symm.trans g36 : true = false) | exact Bool.noConfusion ((tick_no (h3 k (by omega))).2.1.symm.trans g42 : true = false) | exact Bool.noConfusion ((tick_no (h3 k (by omega))).2.2.symm.trans g47 : true = false)
       exact ⟨fun _ => ⟨rfl, hI.keep⟩, fun h => absurd (hno.symm.trans h) (by decide), fun h => absurd (hno.symm.trans h) (by decide)⟩)
end Go.Proofs.YtejgofaeafphjaaGreatDoor
namespace Go.Proofs.YtejgofaeafphjaaGreatDoor
open Go.W Go.Ti
theorem SA148 : StructAt Tryz.prog 148 [.int .i64 0, .int .i64 0] [(0, 1), (1, 1)] := ⟨⟨_, Tryz.zeroValue148, rfl⟩, _, Tryz.underlying148, fun w => by simp [Tryz.sizeOf3]⟩
@[reducible, instance] def ISA148 := SaF.mk SA148
theorem open_ok (T : Tks) (a1 : Option Addr) (n1 c1 : Nat) (D : Imm) (w : World) (hR : TksR D T a1 n1) (hH : Holds D w) (hv : tksB T = true) : Makes Tryz.prog 88 [.agg #[it T.huts, .slice a1 n1 c1], .bool true] w D (fun v D' => ∃ q, v = pt q ∧ OffAt D' q T (.slice a1 n1 c1)) :=
  (open_g T a1 n1 c1 D w hR hH true).mono fun e w' h => by
    obtain ⟨q, D', h1, h2, h3, h4, h5⟩ := h.2.2 hv rfl
    exact ⟨_, D', h1, h2, h3, h4, q, rfl, h5⟩
theorem open_1 (T : Tks) (a1 : Option Addr) (n1 c1 : Nat) (D : Imm) (w : World) (hR : TksR D T a1 n1) (hH : Holds D w) (is : Bool) (hv : tksB T = false) : Fails Tryz.prog 88 [.agg #[it T.huts, .slice a1 n1 c1], .bool is] w (stopK 1) := (open_g T a1 n1 c1 D w hR hH is).mono fun e w' h => h.1 hv
theorem open_2 (T : Tks) (a1 : Option Addr) (n1 c1 : Nat) (D : Imm) (w : World) (hR : TksR D T a1 n1) (hH : Holds D w) (hv : tksB T = true) : Fails Tryz.prog 88 [.agg #[it T.huts, .slice a1 n1 c1], .bool false] w (stopK 2) := (open_g T a1 n1 c1 D w hR hH false).mono fun e w' h => h.2.1 hv rfl
def prV (p : Pr) : Value := .agg #[it p.1, it p.2]
theorem flat_at {α β : Type} [Inhabited α] [Inhabited β] (l : List α) (f : α → List β) {i j : Nat} (hi : i < l.length) (hj : j < (f (gt l i)).length) : ((l.take i).flatMap f).length + j < (l.flatMap f).length ∧ gt (l.flatMap f) (((l.take i).flatMap f).length + j) = gt (f (gt l i)) j := by
  have hg : gt l i = l[i] := by simp [gt, List.getD, hi]
  have hsp : l = l.take i ++ l[i] :: l.drop (i + 1) := by rw [List.getElem_cons_drop]; exact (List.take_append_drop i l).symm
  have hfl : l.flatMap f = (l.take i).flatMap f ++ (f l[i] ++ (l.drop (i + 1)).flatMap f) := by
    conv => lhs; rw [hsp]
    rw [List.flatMap_append, List.flatMap_cons]
  rw [hg] at hj ⊢
  rw [hfl]
  refine ⟨by simp only [List.length_append]; omega, ?_⟩
  simp only [gt, List.getD]
  rw [List.getElem?_append_right (by omega), List.getElem?_append_left (by omega)]
  congr 2; omega
theorem gt_rng {lo hi : Int} {i : Nat} (h : i < (hi - lo + 1).toNat) : gt (rng lo hi) i = lo + (i : Int) := by
  simp [gt, rng, List.getD, h]
theorem rng_len (lo hi : Int) : (rng lo hi).length = (hi - lo + 1).toNat := by simp [rng]
def numP (x : Tick) : Nat := (x.bought.hi - x.bought.lo + 1).toNat
def mP (x : Tick) (i : Nat) : Nat := (x.door.hi - max (x.bought.lo + (i : Int)) x.door.lo + 1).toNat
def cntP (x : Tick) (i : Nat) : Nat := (((rng x.bought.lo x.bought.hi).take i).flatMap (doorsFrom x)).length
theorem doors_len (x : Tick) (a : Int) : (doorsFrom x a).length = (x.door.hi - max a x.door.lo + 1).toNat := by simp [doorsFrom, rng_len]
theorem doors_at (x : Tick) (a : Int) {j : Nat} (h : j < (x.door.hi - max a x.door.lo + 1).toNat) : gt (doorsFrom x a) j = (a, max a x.door.lo + (j : Int)) := by
  simp [gt, doorsFrom, rng, List.getD, h]
theorem pairs_at {x : Tick} {i j : Nat} (hi : i < numP x) (hj : j < mP x i) : cntP x i + j < (pairsL x).length ∧ gt (pairsL x) (cntP x i + j) = (x.bought.lo + (i : Int), max (x.bought.lo + (i : Int)) x.door.lo + (j : Int)) := by
  have hr := gt_rng (lo := x.bought.lo) (hi := x.bought.hi) hi
  obtain ⟨h1, h2⟩ := flat_at (rng x.bought.lo x.bought.hi) (doorsFrom x) (i := i) (j := j) (by rw [rng_len]; exact hi) (by rw [hr, doors_len]; exact hj)
  refine ⟨h1, h2.trans ?_⟩
  rw [hr, doors_at _ _ hj]
theorem cnt_succ {x : Tick} {i : Nat} (hi : i < numP x) : cntP x (i + 1) = cntP x i + mP x i := by
  have hl : i < (rng x.bought.lo x.bought.hi).length := by rw [rng_len]; exact hi
  have hr := gt_rng (lo := x.bought.lo) (hi := x.bought.hi) hi
  have hg : gt (rng x.bought.lo x.bought.hi) i = (rng x.bought.lo x.bought.hi)[i] := by simp [gt, List.getD, hl]
  unfold cntP
  rw [List.take_succ_eq_append_getElem hl, List.flatMap_append, List.length_append, ← hg, hr]
  simp only [List.flatMap_cons, List.flatMap_nil, List.append_nil, doors_len]
  rfl
theorem cnt_all (x : Tick) : cntP x (numP x) = (pairsL x).length := by
  unfold cntP pairsL
  rw [List.take_of_length_le (by rw [rng_len]; exact Nat.le_refl _)]
theorem pairs1_iter (x : Tick) (b5 : Nat) (D : Imm) (w : World) (hx : 0 ≤ x.bought.lo ∧ x.bought.lo ≤ x.bought.hi ∧ x.bought.hi ≤ 240 ∧ 0 ≤ x.door.lo ∧ x.door.lo ≤ x.door.hi ∧ x.door.hi ≤ 240) (h5 : D b5 = some (.cells (List.toArray (tickC x)) 41 (0, 0))) : IterN Tryz.prog 240 [pt b5] (pairsL x).length (fun k => prV (gt (pairsL x) k)) D w := by
  unfold IterN
  intro l St Sp hSm hround h0 hS0 hI0
  unfold AltersN
  obtain ⟨hx1, hx2, hx3, hx4, hx5, hx6⟩ := hx
  refine en Tryz.func240 rfl Tryz.ntmps240 hI0 (g [[1],[8,0,1]] ?_)
  refine WC.loop (fun y : Nat × Imm × Hp => [(0, .func (.yield l) #[] #[]), (1, pt b5), (3, it (x.bought.lo + ((y.1 : Nat) : Int)))]) (fun y => y.2.2) (fun y => y.2.1) (fun y => y.1 ≤ numP x ∧ DExt w D y.2.1 ∧ St (cntP x y.1) y.2.1 y.2.2) (fun y => numP x - y.1) ⟨0, D, h0⟩ ⟨by omega, DExt.refl _ _, hS0⟩ (fun a w h => at_fr h ⟨rfl, rfl, by show some (it _) = some (it _); congr 2; push_cast; omega, trivial⟩) ?_
  rintro ⟨i, D1, h1⟩ ⟨hi, hX1, hS1⟩
  dsimp only at hi hX1 hS1
  refine g [[2],[4,0,1,3]] ?_
  refine WL.yd (Yd.l1 rfl (Rd.imm (hX1.old _ _ h5) rfl)) rfl (g [[3]] ?_)
  refine WC.cond rfl (fun c12 => ?_) (fun c12 => ?_)
  · try simp only [zq] at c12
    have hiN : i < numP x := by unfold numP; omega
    refine g [[5],[4,0,1,3]] ?_
    refine WL.yd (Yd.l1 rfl (Rd.imm (hX1.old _ _ h5) rfl)) rfl (WL.yd (Yd.max2 rfl rfl) rfl (g [[4]] ?_))
    refine WC.loop (fun y : Nat × Imm × Hp => [(0, .func (.yield l) #[] #[]), (1, pt b5), (3, it (x.bought.lo + (i : Int))), (4, it (max (x.bought.lo + (i : Int)) x.door.lo + ((y.1 : Nat) : Int)))]) (fun y => y.2.2) (fun y => y.2.1) (fun y => y.1 ≤ mP x i ∧ DExt w D y.2.1 ∧ St (cntP x i + y.1) y.2.1 y.2.2) (fun y => mP x i - y.1) ⟨0, D1, h1⟩ ⟨by omega, hX1, hS1⟩ (fun a w h => at_fr h ⟨rfl, rfl, rfl, by show some (it _) = some (it _); congr 2; push_cast; omega, trivial⟩) ?_
    rintro ⟨j, D2, h2⟩ ⟨hj, hX2, hS2⟩
    dsimp only at hj hX2 hS2
    refine g [[2],[4,0,1,3,4]] ?_
    refine WL.yd (Yd.l1 rfl (Rd.imm (hX2.old _ _ h5) rfl)) rfl (g [[3]] ?_)
    refine WC.cond rfl (fun c24 => ?_) (fun c24 => ?_)
    · try simp only [zq] at c24
      have hjM : j < mP x i := by unfold mP; omega
      refine g [[5],[0,0,1,3,4]] ?_
      refine WC.ofF (g [[5]] ?_)
      refine WLF.yieldN (l := l) (vals := [prV (x.bought.lo + (i : Int), max (x.bought.lo + (i : Int)) x.door.lo + (j : Int))]) [] h2 (fun _ h => h) (fun h => h) rfl rfl rfl (fun w' hsz hI => by rw [← (pairs_at hiN hjM).2]; exact hround (cntP x i + j) D2 h2 w' (pairs_at hiN hjM).1 hsz hX2 hS2 hI) ?_
      rintro b31 D5 hp5 hK5 hX5
      refine g [[3]] ?_
      refine WC.cond rfl (fun c32 => ?_) (fun c32 => ?_)
      · try simp only [zq] at c32
        refine g [[9]] ?_
        refine WP.ret0 rfl rfl rfl  (fun w1 hI => by
          obtain ⟨htt, _⟩ | ⟨_, hK5⟩ := hK5
          · simp_all
          exact ⟨_, D5, hp5, rfl, hX2.trans hX5 (Nat.le_refl _), hI, .inr hK5⟩)
      try simp only [zq] at c32
      refine g [[3],[5,0,1,3,4]] ?_
      obtain ⟨_, hK5⟩ | ⟨hff, _⟩ := hK5
      · refine WP.again (⟨j + 1, D5, hp5⟩ : Nat × Imm × Hp) ⟨by simp only; omega, hX2.trans hX5 (Nat.le_refl _), hK5⟩ (by simp only; omega) (fun a w h => at_fr h ⟨rfl, rfl, rfl, by show some (it _) = some (it _); congr 2; push_cast; omega, trivial⟩)
      simp_all
    try simp only [zq] at c24
    obtain rfl : j = mP x i := by unfold mP at hj ⊢; omega
    refine g [[6],[5,0,1,3]] ?_
    exact WP.again (⟨i + 1, D2, h2⟩ : Nat × Imm × Hp) ⟨by simp only; omega, hX2, by simp only; rw [cnt_succ hiN]; exact hS2⟩ (by simp only; omega) (fun a w h => at_fr h ⟨rfl, rfl, by show some (it _) = some (it _); congr 2; push_cast; omega, trivial⟩)
  try simp only [zq] at c12
  obtain rfl : i = numP x := by unfold numP at hi ⊢; omega
  refine g [[4]] ?_
  refine WP.ret0 rfl rfl rfl  (fun w1 hI => ⟨_, D1, h1, rfl, hX1, hI, .inl (by rw [← cnt_all]; exact hS1)⟩)
end Go.Proofs.YtejgofaeafphjaaGreatDoor
namespace Go.Proofs.YtejgofaeafphjaaGreatDoor
open Go.W Go.Ti
def truC (t : Tru) : List Value := [it (t 0).1, it (t 0).2, it (t 1).1, it (t 1).2, it (t 2).1, it (t 2).2, it (t 3).1, it (t 3).2, it (t 4).1, it (t 4).2]
def truV (t : Tru) : Value := .agg (truC t).toArray
theorem spl_tru (t : Tru) {i : Nat} (hi : i < 5) (p : Pr) : splice (truC t) (0 + i * 2) [it p.1, it p.2] = truC (upd t i p) := by
  rcases (show i = 0 ∨ i = 1 ∨ i = 2 ∨ i = 3 ∨ i = 4 by omega) with rfl | rfl | rfl | rfl | rfl <;> rfl
theorem tru_rd (t : Tru) {i : Nat} (hi : i < 5) : (truC t)[0 + i * 2]? = some (it (t i).1) ∧ (truC t)[0 + i * 2 + 1]? = some (it (t i).2) := by
  rcases (show i = 0 ∨ i = 1 ∨ i = 2 ∨ i = 3 ∨ i = 4 by omega) with rfl | rfl | rfl | rfl | rfl <;> exact ⟨rfl, rfl⟩
theorem with_g (t : Tru) (i : Nat) (p : Pr) (hi : i < 5) (w : World) : Gives Tryz.prog 179 [truV t, nt i, prV p] w (truV (upd t i p)) := by
  unfold Gives
  refine en Tryz.func179 rfl Tryz.ntmps179 zI (g [[1],[1,0,1,2]] ?_)
  refine WL.so (SO.box rfl rfl) rfl (zw fun b3 hb3 => ?_)
  refine WL.so (SO.box rfl rfl) rfl (zw fun b5 hb5 => ?_)
  refine WL.so (SO.alloc ZvF.h rfl) rfl (zw fun b6 hb6 => ?_)
  refine g [[3],[3,6,5,3,1]] ?_
  refine WL.yd (Yd.indexA UnF.h SzF.h rfl rfl (by omega) (by omega)) rfl ?_
  refine WL.so (SO.store 2 rfl SzF.h rfl rfl rfl rfl (by show 0 + i * 2 + 2 ≤ 10; omega) (oneB_spec rfl)) rfl (zt (g [[3],[1,6,3]] ?_))
  rw [show splice (truC t) (0 + (i : Int).toNat * 2) [it p.1, it p.2] = truC (upd t i p) from spl_tru t hi p]
  refine g [[5]] ?_
  refine WP.ret1 rfl rfl rfl (RV.cellN AgF.h SzF.h rfl (vs := [_, _, _, _, _, _, _, _, _, _]) rfl (RdN.own (k := 0) (n := 10) rfl rfl)) (fun w hI => ⟨rfl, hI.keep⟩)
theorem pairs_g (T : Tks) (a1 : Option Addr) (n1 c1 : Nat) (q : Nat) (D : Imm) (w : World) (hO : OffAt D q T (.slice a1 n1 c1)) (hR : TksR D T a1 n1) (hH : Holds D w) (i : Nat) (hi : i < T.l.length) : Makes Tryz.prog 180 [pt q, nt i] w D (fun v D' => ∃ b, v = .func (.func 240) #[] #[pt b] ∧ D' b = some (.cells (List.toArray (tickC (gt T.l i))) 41 (0, 0))) := by
  unfold Makes
  obtain rfl := hR.tick.len'
  have hl1 := hR.len
  obtain ⟨a3, c3, hq, hS3, hc3⟩ := hO
  refine en Tryz.func180 rfl Tryz.ntmps180 (Inv.start hH) (g [[1],[5,0,1],[7,4,0,1]] ?_)
  refine WL.yd (Yd.ix rfl rfl (hR.tick.addr i (by omega))) rfl (WL.yd (Yd.lV [_, _, _, _, _] rfl ((hR.tick.at i (by omega)).rdn 0 5 rfl)) rfl ?_)
  refine WL.so (SO.alloc ZvF.h rfl) rfl (zw fun b5 hb5 => ?_)
  refine g [[4],[6,5,4]] ?_
  refine WP.ret1 rfl rfl rfl (RV.tmp rfl) (fun w1 hI => ⟨_, _, rfl, hI.keep, hI.freeze.imm, (DExt.refl w D).add (hI.apart _ _ (List.mem_of_getElem? (i := 0) rfl)) hb5, b5, rfl, Imm.add_self _ _ _⟩)
theorem truths_g (q : Nat) (D : Imm) (w : World) (hH : Holds D w) : Makes Tryz.prog 90 [pt q] w D (fun v D' => ∃ b, v = .func (.func 177) #[] #[pt b] ∧ D' b = some (.cells (List.toArray [pt q]) 141 (0, 0))) := by
  unfold Makes
  refine en Tryz.func90 rfl Tryz.ntmps90 (Inv.start hH) (g [[1],[1,0]] ?_)
  refine WL.so (SO.box rfl rfl) rfl (zw fun b1 hb1 => ?_)
  refine g [[4],[6,2,1]] ?_
  refine WP.ret1 rfl rfl rfl (RV.tmp rfl) (fun w1 hI => ⟨_, _, rfl, hI.keep, hI.freeze.imm, (DExt.refl w D).add (hI.apart _ _ (List.mem_of_getElem? (i := 0) rfl)) hb1, b1, rfl, Imm.add_self _ _ _⟩)
end Go.Proofs.YtejgofaeafphjaaGreatDoor
namespace Go.Proofs.YtejgofaeafphjaaGreatDoor
open Go.W Go.Ti
def PartOf {α : Type} (A L : List α) (k : Nat) : Prop := ∃ pre post, A = pre ++ (L ++ post) ∧ pre.length = k
theorem PartOf.at {α : Type} [Inhabited α] {A L : List α} {k : Nat} (h : PartOf A L k) (j : Nat) (hj : j < L.length) : gt A (k + j) = gt L j ∧ k + j < A.length := by
  obtain ⟨pre, post, rfl, rfl⟩ := h
  refine ⟨?_, by simp only [List.length_append]; omega⟩
  simp only [gt, List.getD]
  rw [List.getElem?_append_right (by omega), List.getElem?_append_left (by omega)]
  congr 2; omega
theorem PartOf.step {α β : Type} [Inhabited α] {A : List β} {l : List α} {f : α → List β} {k i : Nat} (h : PartOf A (l.flatMap f) k) (hi : i < l.length) : PartOf A (f (gt l i)) (k + ((l.take i).flatMap f).length) := by
  obtain ⟨pre, post, rfl, rfl⟩ := h
  have hg : gt l i = l[i] := by simp [gt, List.getD, hi]
  have hsp : l = l.take i ++ l[i] :: l.drop (i + 1) := by rw [List.getElem_cons_drop]; exact (List.take_append_drop i l).symm
  have hfl : l.flatMap f = (l.take i).flatMap f ++ (f l[i] ++ (l.drop (i + 1)).flatMap f) := by
    conv => lhs; rw [hsp]
    rw [List.flatMap_append, List.flatMap_cons]
  refine ⟨pre ++ (l.take i).flatMap f, (l.drop (i + 1)).flatMap f ++ post, ?_, by simp⟩
  rw [hfl, hg]; simp [List.append_assoc]
theorem take_flat {α β : Type} [Inhabited α] {l : List α} (f : α → List β) {i : Nat} (hi : i < l.length) : ((l.take (i + 1)).flatMap f).length = ((l.take i).flatMap f).length + (f (gt l i)).length := by
  have hg : gt l i = l[i] := by simp [gt, List.getD, hi]
  rw [List.take_succ_eq_append_getElem hi, List.flatMap_append, List.length_append, hg]
  simp
def onP (T : Tks) (ord : List Nat) (rem : Nat) (t : Tru) (at_ : Nat) (p : Pr) : List Tru := if freeO T ord t at_ (gt ord at_) p then truL T ord rem (upd t (gt ord at_) p) (at_ + 1) else []
theorem truL_succ (T : Tks) (ord : List Nat) (rem : Nat) (t : Tru) (at_ : Nat) : truL T ord (rem + 1) t at_ = (pairsL (gt T.l (gt ord at_))).flatMap (onP T ord rem t at_) := rfl
def okTr (t : Tru) : Prop := ∀ i, (0 ≤ (t i).1 ∧ (t i).1 ≤ 240) ∧ 0 ≤ (t i).2 ∧ (t i).2 ≤ 240
theorem okTr_zero : okTr zeroT := fun i => by simp [zeroT]
theorem okTr_upd {t : Tru} (h : okTr t) (i : Nat) {p : Pr} (hp : (0 ≤ p.1 ∧ p.1 ≤ 240) ∧ 0 ≤ p.2 ∧ p.2 ≤ 240) : okTr (upd t i p) := fun j => by
  unfold upd; split
  · exact hp
  exact h j
def onN (T : Tks) (ord : List Nat) (rem : Nat) (t : Tru) (at_ k : Nat) : Nat := (((pairsL (gt T.l (gt ord at_))).take k).flatMap (onP T ord rem t at_)).length
theorem freeO_clash {T : Tks} {ord : List Nat} {t : Tru} {at_ i : Nat} {p : Pr} {j : Nat} (hj : j < at_) (h : clashB T t (gt ord j) i p = true) : freeO T ord t at_ i p = false := by
  cases hf : freeO T ord t at_ i p with
  | false => rfl
  | true =>
    have := List.all_eq_true.1 hf j (List.mem_range.2 hj)
    rw [h] at this; cases this
theorem freeO_all {T : Tks} {ord : List Nat} {t : Tru} {at_ i : Nat} {p : Pr} (h : ∀ j, j < at_ → clashB T t (gt ord j) i p = false) : freeO T ord t at_ i p = true := by
  unfold freeO
  rw [List.all_eq_true]
  intro j hj
  rw [h j (List.mem_range.1 hj)]; rfl
theorem onN_skip {T : Tks} {ord : List Nat} {rem : Nat} {t : Tru} {at_ k : Nat} (hk : k < (pairsL (gt T.l (gt ord at_))).length) (h : freeO T ord t at_ (gt ord at_) (gt (pairsL (gt T.l (gt ord at_))) k) = false) : onN T ord rem t at_ (k + 1) = onN T ord rem t at_ k := by
  unfold onN
  rw [take_flat _ hk]
  unfold onP
  rw [if_neg (by rw [h]; simp)]
  rfl
theorem onN_on {T : Tks} {ord : List Nat} {rem : Nat} {t : Tru} {at_ k : Nat} (hk : k < (pairsL (gt T.l (gt ord at_))).length) (h : freeO T ord t at_ (gt ord at_) (gt (pairsL (gt T.l (gt ord at_))) k) = true) :
    onN T ord rem t at_ (k + 1) = onN T ord rem t at_ k + (truL T ord rem (upd t (gt ord at_) (gt (pairsL (gt T.l (gt ord at_))) k)) (at_ + 1)).length := by
  unfold onN
  rw [take_flat _ hk]
  congr 1
  unfold onP
  rw [if_pos h]
theorem onN_part {T : Tks} {ord : List Nat} {rem : Nat} {t : Tru} {at_ k k0 : Nat} {A : List Tru} (hA : PartOf A (truL T ord (rem + 1) t at_) k0) (hk : k < (pairsL (gt T.l (gt ord at_))).length) (h : freeO T ord t at_ (gt ord at_) (gt (pairsL (gt T.l (gt ord at_))) k) = true) :
    PartOf A (truL T ord rem (upd t (gt ord at_) (gt (pairsL (gt T.l (gt ord at_))) k)) (at_ + 1)) (k0 + onN T ord rem t at_ k) := by
  rw [truL_succ] at hA
  have := hA.step hk
  unfold onP at this
  rw [if_pos h] at this
  exact this
theorem onN_all {T : Tks} {ord : List Nat} {rem : Nat} {t : Tru} {at_ : Nat} : onN T ord rem t at_ (pairsL (gt T.l (gt ord at_))).length = (truL T ord (rem + 1) t at_).length := by
  unfold onN
  rw [truL_succ, List.take_length]
theorem on_0 (T : Tks) (a1 : Option Addr) (n1 c1 : Nat) (q b1 b2 b3 ly : Nat) (St : Nat → Imm → Hp → Prop) (Sp : Imm → Hp → Prop) (w0 : World) (A : List Tru) (hv : tksB T = true)
    (hSm : ∀ k D1 D2 h, DExt w0 D1 D2 → St k D1 h → St k D2 h)
    (DD : Imm) (hround : ∀ k D' h w', k < A.length → w0.heap.size ≤ w'.heap.size → DExt w0 DD D' → St k D' h → Inv D' h (keys h) w' w' → YieldAt Fence.wide 0 Tryz.prog ly #[truV (gt A k)] w' (RoundN w' D' (keys h) (fun b D'' h' => (b = true ∧ St (k + 1) D'' h') ∨ (b = false ∧ Sp D'' h')))) : ∀ (t : Tru) (at_ k0 : Nat) (D : Imm) (w : World) (h0 : Hp), at_ + 0 = T.l.length → PartOf A (truL T (ordT T) 0 t at_) k0 → okTr t → w0.heap.size ≤ w.heap.size → DExt w0 DD D → OffAt D q T (.slice a1 n1 c1) → TksR D T a1 n1 → D b1 = some (.cells (List.toArray [pt q]) 141 (0, 0)) → D b2 = some (.cells (List.toArray [.func (.yield ly) #[] #[]]) 253 (0, 0)) → D b3 = some (.cells (List.toArray [.func (.func 178) #[] #[pt b1, pt b2, pt b3]]) 254 (0, 0)) → St k0 D h0 → Inv D h0 (keys h0) w w → AltersN Tryz.prog 178 [truV t, nt at_, pt b1, pt b2, pt b3] w D (keys h0) (fun v D' h' => ∃ b, v = .bool b ∧ ((b = true ∧ St (k0 + (truL T (ordT T) 0 t at_).length) D' h') ∨ (b = false ∧ Sp D' h'))) := by
  intro t at_ k0 D w h0 hin hpart hoT hsw hXX hO hR h1 h2 h3 hS0 hI0
  obtain rfl := hR.tick.len'
  have hl1 := hR.len
  have h5 := (tks_num hv).2.1
  obtain ⟨a3, c3, hq, hS3, hc3⟩ := hO
  unfold AltersN
  refine en Tryz.func178 rfl Tryz.ntmps178 hI0 (g [[1],[1,0,1,2,3,4]] ?_)
  refine WL.so (SO.box rfl rfl) rfl (zw fun b5 hb5 => ?_)
  refine WL.so (SO.box rfl rfl) rfl (zw fun b6 hb6 => ?_)
  refine WL.so (SO.alloc ZvF.h rfl) rfl (zw fun b7 hb7 => ?_)
  refine g [[2]] ?_
  refine WC.scope (g [[2],[0,7,6,5,2,3,4],[3006],[10]] ?_)
  refine WC.cond rfl (fun c19 => ?_) (fun c19 => ?_)
  · try simp only [zq] at c19
    have hkA := hpart.at 0 (by exact Nat.zero_lt_one)
    have hgA : gt A k0 = t := hkA.1
    refine g [[1],[0,7,6,5,2,3,4]] ?_
    refine WC.ofF (g [[3]] ?_)
    refine WLF.yieldN (l := ly) (vals := [truV t]) [_, _, _] h0 (fun _ h => h) (fun h => h) rfl rfl rfl (fun w' hsz hI => by rw [← hgA]; exact hround k0 D h0 w' hkA.2 (Nat.le_trans hsw hsz) hXX hS0 hI) ?_
    rintro b22 D5 hp5 hK5 hX5
    refine g [[5]] ?_
    refine WP.scRet ?_
    refine WP.ret1 rfl rfl rfl (RV.cell1 AgF.h rfl (Rd.own (k := 0) rfl rfl)) (fun w1 hI => by
      rcases hK5 with ⟨rfl, hK5⟩ | ⟨rfl, hK5⟩
      · exact ⟨_, D5, hp5, rfl, hX5, hI.drop 3, true, rfl, .inl ⟨rfl, hK5⟩⟩
      exact ⟨_, D5, hp5, rfl, hX5, hI.drop 3, false, rfl, .inr ⟨rfl, hK5⟩⟩)
  try simp only [zq] at c19
  omega
theorem on_s (T : Tks) (a1 : Option Addr) (n1 c1 : Nat) (q b1 b2 b3 ly : Nat) (St : Nat → Imm → Hp → Prop) (Sp : Imm → Hp → Prop) (w0 : World) (A : List Tru) (hv : tksB T = true)
    (hSm : ∀ k D1 D2 h, DExt w0 D1 D2 → St k D1 h → St k D2 h)
    (DD : Imm) (hround : ∀ k D' h w', k < A.length → w0.heap.size ≤ w'.heap.size → DExt w0 DD D' → St k D' h → Inv D' h (keys h) w' w' → YieldAt Fence.wide 0 Tryz.prog ly #[truV (gt A k)] w' (RoundN w' D' (keys h) (fun b D'' h' => (b = true ∧ St (k + 1) D'' h') ∨ (b = false ∧ Sp D'' h')))) (rem : Nat) (ih : ∀ (t : Tru) (at_ k0 : Nat) (D : Imm) (w : World) (h0 : Hp), at_ + rem = T.l.length → PartOf A (truL T (ordT T) rem t at_) k0 → okTr t → w0.heap.size ≤ w.heap.size → DExt w0 DD D → OffAt D q T (.slice a1 n1 c1) → TksR D T a1 n1 → D b1 = some (.cells (List.toArray [pt q]) 141 (0, 0)) → D b2 = some (.cells (List.toArray [.func (.yield ly) #[] #[]]) 253 (0, 0)) → D b3 = some (.cells (List.toArray [.func (.func 178) #[] #[pt b1, pt b2, pt b3]]) 254 (0, 0)) → St k0 D h0 → Inv D h0 (keys h0) w w → AltersN Tryz.prog 178 [truV t, nt at_, pt b1, pt b2, pt b3] w D (keys h0) (fun v D' h' => ∃ b, v = .bool b ∧ ((b = true ∧ St (k0 + (truL T (ordT T) rem t at_).length) D' h') ∨ (b = false ∧ Sp D' h')))) : ∀ (t : Tru) (at_ k0 : Nat) (D : Imm) (w : World) (h0 : Hp), at_ + (rem + 1) = T.l.length → PartOf A (truL T (ordT T) (rem + 1) t at_) k0 → okTr t → w0.heap.size ≤ w.heap.size → DExt w0 DD D → OffAt D q T (.slice a1 n1 c1) → TksR D T a1 n1 → D b1 = some (.cells (List.toArray [pt q]) 141 (0, 0)) → D b2 = some (.cells (List.toArray [.func (.yield ly) #[] #[]]) 253 (0, 0)) → D b3 = some (.cells (List.toArray [.func (.func 178) #[] #[pt b1, pt b2, pt b3]]) 254 (0, 0)) → St k0 D h0 → Inv D h0 (keys h0) w w → AltersN Tryz.prog 178 [truV t, nt at_, pt b1, pt b2, pt b3] w D (keys h0) (fun v D' h' => ∃ b, v = .bool b ∧ ((b = true ∧ St (k0 + (truL T (ordT T) (rem + 1) t at_).length) D' h') ∨ (b = false ∧ Sp D' h'))) := by
  intro t at_ k0 D w h0 hin hpart hoT hsw hXX hO hR h1 h2 h3 hS0 hI0
  obtain rfl := hR.tick.len'
  have hl1 := hR.len
  have h5 := (tks_num hv).2.1
  obtain ⟨a3, c3, hq, hS3, hc3⟩ := hO
  unfold AltersN
  refine enM Tryz.func178 rfl Tryz.ntmps178 hI0 (g [[1],[1,0,1,2,3,4]] ?_)
  refine WL.so (SO.box rfl rfl) rfl (zw fun b5 hb5 => ?_)
  refine WL.so (SO.box rfl rfl) rfl (zw fun b6 hb6 => ?_)
  refine WL.so (SO.alloc ZvF.h rfl) rfl (zw fun b7 hb7 => ?_)
  refine g [[2]] ?_
  refine WC.scope (g [[2],[0,7,6,5,2,3,4],[3006],[10]] ?_)
  refine WC.cond rfl (fun c19 => ?_) (fun c19 => ?_)
  · try simp only [zq] at c19
    omega
  try simp only [zq] at c19
  have hat : at_ < T.l.length := by omega
  have hi : (gt (ordT T) at_) < T.l.length := sortT_lt _ _ hat
  have hi5 : (gt (ordT T) at_) < 5 := by omega
  have hnum := (tks_num hv).2.2 _ hi
  obtain ⟨hh, hpb, hpd⟩ := hnum
  refine g [[3],[0,7,6,5,2,4]] ?_
  refine WC.drawD _ (pz [1,3,5,7,9,11,13,14,16]) zk zk zX (fun _ hI => hI) (g [[5]] ?_)
  refine WA.yd rfl (Yd.ix rfl rfl (hS3.addr at_ (by omega))) rfl (WA.yd rfl (Yd.l1 rfl ((hS3.at at_ (by omega)).rd 0 rfl)) rfl ?_)
  refine WA.so rfl (SO.alloc ZvF.h rfl) rfl ?_
  rintro _ _ _ ⟨b8, hb8, rfl, rfl, rfl⟩
  refine ⟨fun _ hI => hI.tail, ?_⟩
  refine WA.so rfl (SO.store 0 rfl SzF.h rfl rfl rfl rfl (zqb rfl) (oneB_spec rfl)) rfl ?_
  rintro _ _ _ ⟨rfl, rfl, rfl⟩
  refine ⟨fun _ hI => hI.drop 1, ?_⟩
  refine g [[3],[3,8,7,6,5,2,4]] ?_
  refine WL.so (SO.alloc ZvF.h rfl) rfl (zw fun b9 hb9 => ?_)
  refine g [[4]] ?_
  refine WC.label (g [[3],[3,9,8,7,6,5,2,4]] ?_)
  refine WL.so (SO.makes (Enters.func Tryz.call180 rfl) (fun w hI => pairs_g T a1 _ c1 q D _ ⟨a3, c3, hq, hS3, hc3⟩ hR hI.imm (gt (ordT T) at_) hi)) rfl ?_
  rintro _ D2 _ ⟨hX2, ⟨bp, rfl, hbp⟩, rfl⟩
  replace hXX := hXX.trans (hX2) hsw
  replace hR := hR.ext (hX2)
  replace hq := (hX2).old _ _ hq
  replace hS3 := hS3.ext (hX2)
  replace h1 := (hX2).old _ _ h1
  replace h2 := (hX2).old _ _ h2
  replace h3 := (hX2).old _ _ h3
  refine g [[3],[0,2,4,5,6,7,8,9,34]] ?_
  refine WC.rangeIterN (N := (pairsL (gt T.l (gt (ordT T) at_))).length) (arg := fun k => prV (gt (pairsL (gt T.l (gt (ordT T) at_))) k)) (fun w1 _ hD1 => pairs1_iter (gt T.l (gt (ordT T) at_)) bp D2 w1 (by omega) hbp) rfl Tryz.call240 rfl (fun k D' h => ∃ hG, h = ((b9, .cells (List.toArray [.func (.func 179) #[truV t] #[]]) 255 (0, 0)) :: (b8, .cells (List.toArray [nt (gt (ordT T) at_)]) 3 (0, 0)) :: (b7, .cells (List.toArray [.bool false]) 4 (0, 0)) :: (b6, .cells (List.toArray [nt at_]) 3 (0, 0)) :: (b5, .cells (List.toArray (truC t)) 150 (0, 0)) :: hG) ∧ St (k0 + onN T (ordT T) rem t at_ k) D' hG) (fun c D' h => c = .ret ∧ ∃ hG, h = ((b9, .cells (List.toArray [.func (.func 179) #[truV t] #[]]) 255 (0, 0)) :: (b8, .cells (List.toArray [nt (gt (ordT T) at_)]) 3 (0, 0)) :: (b7, .cells (List.toArray [.bool false]) 4 (0, 0)) :: (b6, .cells (List.toArray [nt at_]) 3 (0, 0)) :: (b5, .cells (List.toArray (truC t)) 150 (0, 0)) :: hG) ∧ Sp D' hG) (fun k D1 D2 h hx ⟨hG, e, hs⟩ => ⟨hG, e, hSm _ _ _ _ (hx.wide hsw) hs⟩) ⟨h0, rfl, hSm _ _ _ _ (hX2.wide hsw) hS0⟩ ?_ ?_ ?_
  · rintro rec1 l1 Dn0 k D3 _ w1 hrec hk ⟨hG, rfl, hSG⟩ hX3 hsz
    unfold RoundGN
    replace hXX := hXX.trans (hX3) hsw
    replace hR := hR.ext (hX3)
    replace hq := (hX3).old _ _ hq
    replace hS3 := hS3.ext (hX3)
    replace h1 := (hX3).old _ _ h1
    replace h2 := (hX3).old _ _ h2
    replace h3 := (hX3).old _ _ h3
    have hpp0 := pairP_iff.1 (mem_pairs.1 (gt_mem hk))
    have hpp : (0 ≤ (gt (pairsL (gt T.l (gt (ordT T) at_))) k).1 ∧ (gt (pairsL (gt T.l (gt (ordT T) at_))) k).1 ≤ 240) ∧ 0 ≤ (gt (pairsL (gt T.l (gt (ordT T) at_))) k).2 ∧ (gt (pairsL (gt T.l (gt (ordT T) at_))) k).2 ≤ 240 := by omega
    refine g [[1,35,2,4,5,6,7,8,9]] ?_
    refine WLF.so (zn rfl) (SO.alloc ZvF.h rfl) rfl (zw fun b10 hb10 => ?_)
    refine g [[2]] ?_
    refine WP.iterBegin 1 rfl hrec (g [[3],[0,10,2,4,5,6,7,8,9]] ?_)
    refine WCF.drawH _ zk zk (noLets.then (noLets.then (noLets.blk noLets.round))) (fun _ hI => hI) (g [[1000],[1001],[1002],[1003],[1004]] ?_)
    refine WH.yd (i := 5) zk zX rfl (Yd.sliceTo (h := at_) Tryz.underlying94 Tryz.sizeOf3 rfl rfl (by omega)) rfl (g [[1006],[1007]] ?_)
    refine WH.nil zk (g [[2]] ?_)
    refine WCF.loopF (fun j : Nat => [(2, pt b1), (4, pt b3), (5, pt b5), (6, pt b6), (7, pt b7), (8, pt b8), (9, pt b9), (10, pt b10), (41, .slice a3 at_ c3), (42, nt at_), (43, nt j)]) (fun j => j ≤ at_ ∧ ∀ i, i < j → clashB T t (gt (ordT T) i) (gt (ordT T) at_) (gt (pairsL (gt T.l (gt (ordT T) at_))) k) = false) (fun j => at_ - j) 0 ⟨by omega, by intro i hi; omega⟩ (by exact ⟨rfl, rfl, rfl, rfl, rfl, rfl, rfl, rfl, rfl, rfl, rfl, trivial⟩) ?_
    intro j ⟨hj, hcl⟩
    refine g [[1],[5,2,4,5,6,7,8,9,10,41,42,43]] ?_
    refine WCF.cond rfl (fun c44 => ?_) (fun c44 => ?_)
    · try simp only [zq] at c44
      have hjl : gt (ordT T) j < T.l.length := sortT_lt _ _ (by omega)
      have hj5 : gt (ordT T) j < 5 := by omega
      have hbt := hoT (gt (ordT T) j)
      refine g [[5],[1,2,4,5,6,7,8,9,10,41,42,43]] ?_
      refine WLF.yd (zn rfl) (Yd.ix rfl rfl (hS3.addr j (by omega))) rfl (WLF.yd (zn rfl) (Yd.l1 rfl ((hS3.at j (by omega)).rd 0 rfl)) rfl (g [[4],[0,12,2,4,5,6,7,8,9,10,41,42,43]] ?_))
      refine WCF.tail 26 [0, 1, 2, 3, 4, 5, 6, 7, 8, 9, 10, 11, 12, 13, 14, 15, 16, 17, 18, 19, 20, 21, 22, 23, 24, 25] rfl zk zk (noLets.then (noLets.blk (noLets.then (noLets.then (noLets.blk (noLets.then (noLets.blk noLets.round))))))) (g [[6]] ?_)
      refine WQ.q rfl (Yd.qt (Yd.ix rfl rfl (hR.tick.addr (gt (ordT T) j) hjl))) rfl (g [[1]] ?_)
      refine WQ.q rfl (Yd.qt (Yd.l1 rfl ((hR.tick.at (gt (ordT T) j) hjl).rd 2 rfl))) rfl (g [[6]] ?_)
      refine WQ.q rfl (Yd.qt (Yd.ix rfl rfl (hR.tick.addr (gt (ordT T) j) hjl))) rfl (g [[1]] ?_)
      refine WQ.q rfl (Yd.qt (Yd.l1 rfl ((hR.tick.at (gt (ordT T) at_) hi).rd 2 rfl))) rfl (g [[2]] ?_)
      refine WQ.part 66 rfl (fun g66 => ?_) (fun g66 => ?_)
      · try simp only [zq] at g66
        refine g [[1]] ?_
        refine WQ.qg rfl rfl (Yd.qt (Yd.indexA UnF.h SzF.h rfl rfl (by omega) (by omega))) rfl (g [[1]] ?_)
        refine WQ.qg rfl rfl (Yd.qt (Yd.l1 rfl (Rd.own (k := 7) rfl (tru_rd t hj5).2))) rfl (g [[2]] ?_)
        refine WQ.tailR (g [[1]] ?_)
        refine WLF.sog (zn rfl) rfl (SO.callP CaF.h rfl (fun w hI => withinK_g _ _ _ _)) rfl (zs (g [[3]] ?_))
        refine WCF.cond rfl (fun c75 => ?_) (fun c75 => ?_)
        · try simp only [zq] at c75
          have hfr : freeO T (ordT T) t at_ (gt (ordT T) at_) (gt (pairsL (gt T.l (gt (ordT T) at_))) k) = false := freeO_clash (j := j) (by omega) (by unfold clashB; rw [decide_eq_true g66]; exact c75)
          refine g [[7]] ?_
          first
            | exact WP.iterOnN hrec (h1 := ((b9, .cells (List.toArray [.func (.func 179) #[truV t] #[]]) 255 (0, 0)) :: (b8, .cells (List.toArray [nt (gt (ordT T) at_)]) 3 (0, 0)) :: (b7, .cells (List.toArray [.bool false]) 4 (0, 0)) :: (b6, .cells (List.toArray [nt at_]) 3 (0, 0)) :: (b5, .cells (List.toArray (truC t)) 150 (0, 0)) :: hG)) (fun _ h => List.mem_cons_of_mem _ h) (fun h => (List.nodup_cons.1 h).2) (DExt.refl _ _) ⟨hG, rfl, by rw [onN_skip hk hfr]; exact hSG⟩
            | (have hb84 : b84 = true := by simpa using c85
               rcases hK8 with ⟨_, hK8⟩ | ⟨hff, _⟩
               · exact WP.iterOnN hrec (h1 := ((b9, .cells (List.toArray [.func (.func 179) #[truV t] #[]]) 255 (0, 0)) :: (b8, .cells (List.toArray [nt (gt (ordT T) at_)]) 3 (0, 0)) :: (b7, .cells (List.toArray [.bool false]) 4 (0, 0)) :: (b6, .cells (List.toArray [nt at_]) 3 (0, 0)) :: (b5, .cells (List.toArray (truC t)) 150 (0, 0)) :: hp8)) (fun _ h => List.mem_cons_of_mem _ h) (fun h => (List.nodup_cons.1 h).2) hX8 ⟨hp8, rfl, by rw [onN_on hk hfr, ← Nat.add_assoc]; exact hK8⟩
               rw [hb84] at hff; cases hff)
        try simp only [zq] at c75
        refine g [[3],[4,2,4,5,6,7,8,9,10,41,42,43]] ?_
        exact WP.againF (j + 1) ⟨by omega, ext_round hcl (clashB_false.2 (fun _ => c75))⟩ (by omega) ⟨rfl, rfl, rfl, rfl, rfl, rfl, rfl, rfl, rfl, rfl, rfl, trivial⟩ (fun _ h => h) (fun h => h)
      try simp only [zq] at g66
      refine g [[6]] ?_
      refine WQ.tailR (g [[5]] ?_)
      refine WCF.condF rfl (g [[3],[4,2,4,5,6,7,8,9,10,41,42,43]] ?_)
      exact WP.againF (j + 1) ⟨by omega, ext_round hcl (clashB_false.2 (fun e => absurd e g66))⟩ (by omega) ⟨rfl, rfl, rfl, rfl, rfl, rfl, rfl, rfl, rfl, rfl, rfl, trivial⟩ (fun _ h => h) (fun h => h)
    try simp only [zq] at c44
    have hfr : freeO T (ordT T) t at_ (gt (ordT T) at_) (gt (pairsL (gt T.l (gt (ordT T) at_))) k) = true := freeO_all fun i hi => hcl i (by omega)
    refine g [[6],[0,4,6,7,8,9,10]] ?_
    refine WCF.tail 7 [0, 1, 2, 3, 4, 5, 6] rfl zk zk (noLets.then (noLets.blk noLets.round)) (g [[4]] ?_)
    refine WQ.q rfl (Qt.call (Enters.val CaF.h rfl rfl) (fun w hI => with_g t (gt (ordT T) at_) (gt (pairsL (gt T.l (gt (ordT T) at_))) k) hi5 _)) rfl (g [[1]] ?_)
    refine WQ.q rfl (Yd.qt (Yd.addN (i := at_) (j := 1) rfl rfl (by omega))) rfl (WQ.tailR ?_)
    refine WLF.so (zn rfl) (SO.altersNS (own := [_, _, _, _, _, _, _, _]) (hpc := hG) (fun _ h => h) (fun h => h) (Enters.val CaF.h rfl rfl) (fun w3 hsz3 hI => ih (upd t (gt (ordT T) at_) (gt (pairsL (gt T.l (gt (ordT T) at_))) k)) (at_ + 1) (k0 + onN T (ordT T) rem t at_ k) D3 w3 hG (by omega) (onN_part hpart hk hfr) (okTr_upd hoT _ hpp) (Nat.le_trans hsw (Nat.le_trans hsz hsz3)) hXX ⟨a3, c3, hq, hS3, hc3⟩ hR h1 h2 h3 hSG hI)) rfl ?_
    rintro _ D8 _ ⟨hp8, hX8, ⟨b84, rfl, hK8⟩, rfl⟩
    refine g [[3]] ?_
    refine WCF.cond rfl (fun c85 => ?_) (fun c85 => ?_)
    · try simp only [zq] at c85
      refine g [[1],[6,7]] ?_
      have hb84 : b84 = false := by simpa using c85
      rcases hK8 with ⟨htt, _⟩ | ⟨_, hK8⟩
      · rw [hb84] at htt; cases htt
      exact WP.iterRetN (h1 := ((b9, .cells (List.toArray [.func (.func 179) #[truV t] #[]]) 255 (0, 0)) :: (b8, .cells (List.toArray [nt (gt (ordT T) at_)]) 3 (0, 0)) :: (b7, .cells (List.toArray [.bool false]) 4 (0, 0)) :: (b6, .cells (List.toArray [nt at_]) 3 (0, 0)) :: (b5, .cells (List.toArray (truC t)) 150 (0, 0)) :: hp8)) (fun _ h => List.mem_cons_of_mem _ h) (fun h => (List.nodup_cons.1 h).2) hX8 ⟨rfl, hp8, rfl, hK8⟩
    try simp only [zq] at c85
    refine g [[2]] ?_
    first
      | exact WP.iterOnN hrec (h1 := ((b9, .cells (List.toArray [.func (.func 179) #[truV t] #[]]) 255 (0, 0)) :: (b8, .cells (List.toArray [nt (gt (ordT T) at_)]) 3 (0, 0)) :: (b7, .cells (List.toArray [.bool false]) 4 (0, 0)) :: (b6, .cells (List.toArray [nt at_]) 3 (0, 0)) :: (b5, .cells (List.toArray (truC t)) 150 (0, 0)) :: hG)) (fun _ h => List.mem_cons_of_mem _ h) (fun h => (List.nodup_cons.1 h).2) (DExt.refl _ _) ⟨hG, rfl, by rw [onN_skip hk hfr]; exact hSG⟩
      | (have hb84 : b84 = true := by simpa using c85
         rcases hK8 with ⟨_, hK8⟩ | ⟨hff, _⟩
         · exact WP.iterOnN hrec (h1 := ((b9, .cells (List.toArray [.func (.func 179) #[truV t] #[]]) 255 (0, 0)) :: (b8, .cells (List.toArray [nt (gt (ordT T) at_)]) 3 (0, 0)) :: (b7, .cells (List.toArray [.bool false]) 4 (0, 0)) :: (b6, .cells (List.toArray [nt at_]) 3 (0, 0)) :: (b5, .cells (List.toArray (truC t)) 150 (0, 0)) :: hp8)) (fun _ h => List.mem_cons_of_mem _ h) (fun h => (List.nodup_cons.1 h).2) hX8 ⟨hp8, rfl, by rw [onN_on hk hfr, ← Nat.add_assoc]; exact hK8⟩
         rw [hb84] at hff; cases hff)
  · rintro Dn1 D6 _ hDn1 hX6 ⟨hG, rfl, hSG⟩
    refine g [[3],[5,7]] ?_
    refine WP.scRet ?_
    refine WP.retMs [Dn1] (((b9, .cells (List.toArray [.func (.func 179) #[truV t] #[]]) 255 (0, 0)) :: (b8, .cells (List.toArray [nt (gt (ordT T) at_)]) 3 (0, 0)) :: (b7, .cells (List.toArray [.bool true]) 4 (0, 0)) :: (b6, .cells (List.toArray [nt at_]) 3 (0, 0)) :: (b5, .cells (List.toArray (truC t)) 150 (0, 0)) :: hG)) [_] [_] rfl rfl (fun _ h => h) (fun h => h) rfl zV (fun w2 hI => ⟨_, D6, hG, rfl, hX2.trans hX6 (Nat.le_refl _), hI.drop 5, true, rfl, .inl ⟨rfl, by rw [← onN_all]; exact hSG⟩⟩)
  rintro Dn1 c D6 _ hDn1 hX6 ⟨rfl, hG, rfl, hSG⟩
  refine g [[3]] ?_
  refine WP.scRet ?_
  refine WP.retMs [Dn1] (((b9, .cells (List.toArray [.func (.func 179) #[truV t] #[]]) 255 (0, 0)) :: (b8, .cells (List.toArray [nt (gt (ordT T) at_)]) 3 (0, 0)) :: (b7, .cells (List.toArray [.bool false]) 4 (0, 0)) :: (b6, .cells (List.toArray [nt at_]) 3 (0, 0)) :: (b5, .cells (List.toArray (truC t)) 150 (0, 0)) :: hG)) [_] [_] rfl rfl (fun _ h => h) (fun h => h) rfl zV (fun w2 hI => ⟨_, D6, hG, rfl, hX2.trans hX6 (Nat.le_refl _), hI.drop 5, false, rfl, .inr ⟨rfl, hSG⟩⟩)
theorem on_g (T : Tks) (a1 : Option Addr) (n1 c1 : Nat) (q b1 b2 b3 ly : Nat) (St : Nat → Imm → Hp → Prop) (Sp : Imm → Hp → Prop) (w0 : World) (A : List Tru) (hv : tksB T = true)
    (hSm : ∀ k D1 D2 h, DExt w0 D1 D2 → St k D1 h → St k D2 h)
    (DD : Imm) (hround : ∀ k D' h w', k < A.length → w0.heap.size ≤ w'.heap.size → DExt w0 DD D' → St k D' h → Inv D' h (keys h) w' w' → YieldAt Fence.wide 0 Tryz.prog ly #[truV (gt A k)] w' (RoundN w' D' (keys h) (fun b D'' h' => (b = true ∧ St (k + 1) D'' h') ∨ (b = false ∧ Sp D'' h')))) : ∀ rem, ∀ (t : Tru) (at_ k0 : Nat) (D : Imm) (w : World) (h0 : Hp), at_ + rem = T.l.length → PartOf A (truL T (ordT T) rem t at_) k0 → okTr t → w0.heap.size ≤ w.heap.size → DExt w0 DD D → OffAt D q T (.slice a1 n1 c1) → TksR D T a1 n1 → D b1 = some (.cells (List.toArray [pt q]) 141 (0, 0)) → D b2 = some (.cells (List.toArray [.func (.yield ly) #[] #[]]) 253 (0, 0)) → D b3 = some (.cells (List.toArray [.func (.func 178) #[] #[pt b1, pt b2, pt b3]]) 254 (0, 0)) → St k0 D h0 → Inv D h0 (keys h0) w w → AltersN Tryz.prog 178 [truV t, nt at_, pt b1, pt b2, pt b3] w D (keys h0) (fun v D' h' => ∃ b, v = .bool b ∧ ((b = true ∧ St (k0 + (truL T (ordT T) rem t at_).length) D' h') ∨ (b = false ∧ Sp D' h'))) := by
  intro rem
  induction rem with
  | zero => exact on_0 T a1 n1 c1 q b1 b2 b3 ly St Sp w0 A hv hSm DD hround
  | succ rem ih => exact on_s T a1 n1 c1 q b1 b2 b3 ly St Sp w0 A hv hSm DD hround rem ih
end Go.Proofs.YtejgofaeafphjaaGreatDoor
namespace Go.Proofs.YtejgofaeafphjaaGreatDoor
open Go.W Go.Ti
theorem truths1_iter (T : Tks) (a1 : Option Addr) (n1 c1 : Nat) (q b1 : Nat) (D : Imm) (w : World) (hO : OffAt D q T (.slice a1 n1 c1)) (hR : TksR D T a1 n1) (h1 : D b1 = some (.cells (List.toArray [pt q]) 141 (0, 0))) (hv : tksB T = true) (hH : Holds D w) : IterN Tryz.prog 177 [pt b1] (allT T).length (fun k => truV (gt (allT T) k)) D w := by
  unfold IterN
  intro l St Sp hSm hround h0 hS0 hI0
  unfold AltersN
  refine en Tryz.func177 rfl Tryz.ntmps177 hI0 (g [[1],[1,0,1]] ?_)
  refine WL.so (SO.box rfl rfl) rfl (zw fun b2 hb2 => ?_)
  refine g [[3],[1,2,1]] ?_
  refine WL.so (SO.alloc ZvF.h rfl) rfl (zw fun b3 hb3 => ?_)
  refine g [[3],[5,3,2,1]] ?_
  refine WC.freezeK 0 rfl (fun hn3 => ?_)
  refine WC.freezeK 0 rfl (fun hn2 => ?_)
  have hX3 : DExt w D ((D.add b3 (.cells (List.toArray [.func (.func 178) #[] #[pt b1, pt b2, pt b3]]) 254 (0, 0))).add b2 (.cells (List.toArray [.func (.yield l) #[] #[]]) 253 (0, 0))) := ((DExt.refl w D).add hn3 hb3).add hn2 hb2
  have h2 : ((D.add b3 (.cells (List.toArray [.func (.func 178) #[] #[pt b1, pt b2, pt b3]]) 254 (0, 0))).add b2 (.cells (List.toArray [.func (.yield l) #[] #[]]) 253 (0, 0))) b2 = some (.cells (List.toArray [.func (.yield l) #[] #[]]) 253 (0, 0)) := Imm.add_self _ _ _
  have h3 : ((D.add b3 (.cells (List.toArray [.func (.func 178) #[] #[pt b1, pt b2, pt b3]]) 254 (0, 0))).add b2 (.cells (List.toArray [.func (.yield l) #[] #[]]) 253 (0, 0))) b3 = some (.cells (List.toArray [.func (.func 178) #[] #[pt b1, pt b2, pt b3]]) 254 (0, 0)) := ((DExt.refl w _).add hn2 hb2).old _ _ (Imm.add_self _ _ _)
  replace h1 := hX3.old _ _ h1
  replace hO := hO.ext hX3
  replace hR := hR.ext hX3
  refine (?_ : WC Tryz.prog _ _ ((D.add b3 (.cells (List.toArray [.func (.func 178) #[] #[pt b1, pt b2, pt b3]]) 254 (0, 0))).add b2 (.cells (List.toArray [.func (.yield l) #[] #[]]) 253 (0, 0))) h0 _ _)
  generalize ((D.add b3 (.cells (List.toArray [.func (.func 178) #[] #[pt b1, pt b2, pt b3]]) 254 (0, 0))).add b2 (.cells (List.toArray [.func (.yield l) #[] #[]]) 253 (0, 0))) = D3 at hX3 h1 h2 h3 hO hR ⊢
  refine g [[2,3]] ?_
  refine WL.yd (Yd.buildA (zs := [.int .i64 0, .int .i64 0, .int .i64 0, .int .i64 0, .int .i64 0, .int .i64 0, .int .i64 0, .int .i64 0, .int .i64 0, .int .i64 0]) ⟨_, ZvF.h, rfl⟩ UnF.h SzF.h rfl (cs := [_, _, _, _, _, _, _, _, _, _]) rfl) rfl (WL.know 6 (truV zeroT) rfl rfl ?_)
  refine WL.so (SO.altersNS (own := []) (hpc := h0) (fun _ h => h) (fun h => h) (Enters.val CaF.h rfl rfl) (fun w3 hsz hI => on_g T a1 n1 c1 q b1 b2 b3 l St Sp w (allT T) hv hSm D hround T.l.length zeroT 0 0 D3 w3 h0 (by omega) ⟨[], [], by simp [allT], rfl⟩ okTr_zero hsz hX3 hO hR h1 h2 h3 (hSm _ _ _ _ hX3 hS0) hI)) rfl ?_
  rintro _ D8 hp8 ⟨_, hX8, ⟨b7, rfl, hK8⟩, rfl⟩
  refine g [[1]] ?_
  refine WP.ret0 rfl rfl rfl  (fun w1 hI => by
    rcases hK8 with ⟨rfl, hK8⟩ | ⟨rfl, hK8⟩
    · exact ⟨_, D8, hp8, rfl, hX3.trans hX8 (Nat.le_refl _), hI, .inl (by rw [Nat.zero_add] at hK8; exact hK8)⟩
    exact ⟨_, D8, hp8, rfl, hX3.trans hX8 (Nat.le_refl _), hI, .inr hK8⟩)
end Go.Proofs.YtejgofaeafphjaaGreatDoor
namespace Go.Proofs.YtejgofaeafphjaaGreatDoor
open Go.W Go.Ti
theorem before_g (t : Tru) (a b : Nat) (ha : a < 5) (hb5 : b < 5) (w : World) : Gives Tryz.prog 92 [truV t, nt a, nt b] w (.bool (befT t a b)) := by
  unfold Gives
  refine en Tryz.func92 rfl Tryz.ntmps92 zI (g [[1],[1,0,1,2]] ?_)
  refine WL.so (SO.box rfl rfl) rfl (zw fun b3 hb3 => ?_)
  refine g [[4],[0,6,3,1,2],[3022],[1]] ?_
  refine WQ.q rfl (Yd.qt (Yd.indexA UnF.h SzF.h rfl rfl (by omega) (by omega))) rfl (g [[1]] ?_)
  refine WQ.q rfl (Yd.qt (Yd.l1 rfl (Rd.own (k := 0) rfl (tru_rd t (i := a) (by omega)).1))) rfl (g [[1]] ?_)
  refine WQ.q rfl (Yd.qt (Yd.indexA UnF.h SzF.h rfl rfl (by omega) (by omega))) rfl (g [[1]] ?_)
  refine WQ.q rfl (Yd.qt (Yd.l1 rfl (Rd.own (k := 0) rfl (tru_rd t (i := b) (by omega)).1))) rfl (g [[2]] ?_)
  refine WQ.part 16 rfl (fun g16 => ?_) (fun g16 => ?_)
  · try simp only [zq] at g16
    refine g [[20]] ?_
    refine WP.ret1 rfl rfl rfl (RV.tmp rfl) (fun w hI => ⟨ret_bool (by rw [Bool.eq_iff_iff]; simp_all [befT]; try omega), hI.keep⟩)
  try simp only [zq] at g16
  refine g [[1]] ?_
  refine WQ.qg rfl rfl (Yd.qt (Yd.indexA UnF.h SzF.h rfl rfl (by omega) (by omega))) rfl (g [[1]] ?_)
  refine WQ.qg rfl rfl (Yd.qt (Yd.l1 rfl (Rd.own (k := 0) rfl (tru_rd t (i := a) (by omega)).1))) rfl (g [[1]] ?_)
  refine WQ.qg rfl rfl (Yd.qt (Yd.indexA UnF.h SzF.h rfl rfl (by omega) (by omega))) rfl (g [[1]] ?_)
  refine WQ.qg rfl rfl (Yd.qt (Yd.l1 rfl (Rd.own (k := 0) rfl (tru_rd t (i := b) (by omega)).1))) rfl (g [[2]] ?_)
  refine WQ.part 26 rfl (fun g26 => ?_) (fun g26 => ?_)
  · try simp only [zq] at g26
    refine g [[10]] ?_
    refine WP.ret1 rfl rfl rfl (RV.tmp rfl) (fun w hI => ⟨ret_bool (by rw [Bool.eq_iff_iff]; simp_all [befT]; try omega), hI.keep⟩)
  try simp only [zq] at g26
  refine g [[10]] ?_
  refine WP.ret1 rfl rfl rfl (RV.tmp rfl) (fun w hI => ⟨ret_bool (by rw [Bool.eq_iff_iff]; simp_all [befT]; try omega), hI.keep⟩)
theorem overis_g (t : Tru) (a b : Nat) (v : Value) (ha : a < 5) (hbb : b < 5) (w : World) : Gives Tryz.prog 335 [.agg #[nt a, nt b], v, truV t] w (.bool (overT t a b)) := by
  unfold Gives
  refine en Tryz.func335 rfl Tryz.ntmps335 zI (g [[1],[1,0,2]] ?_)
  refine WL.so (SO.box rfl rfl) rfl (zw fun b3 hb3 => ?_)
  refine WL.so (SO.box rfl rfl) rfl (zw fun b5 hb5 => ?_)
  refine g [[4],[5,6,5,3],[0,7,6,5,3],[3018],[6]] ?_
  refine WQ.q rfl (Qt.call (Enters.val CaF.h rfl rfl) (fun w hI => before_g t b a hbb ha _)) rfl (g [[1]] ?_)
  refine WQ.part 15 rfl (fun g15 => ?_) (fun g15 => ?_)
  · try simp only [zq] at g15
    refine g [[2]] ?_
    refine WQ.qg rfl rfl (Yd.qt (Yd.indexA UnF.h SzF.h rfl rfl (by omega) (by omega))) rfl (g [[1]] ?_)
    refine WQ.qg rfl rfl (Yd.qt (Yd.l1 rfl (Rd.own (k := 0) rfl (tru_rd t (i := b) (by omega)).2))) rfl (g [[2]] ?_)
    refine WQ.qg rfl rfl (Yd.qt (Yd.indexA UnF.h SzF.h rfl rfl (by omega) (by omega))) rfl (g [[1]] ?_)
    refine WQ.qg rfl rfl (Yd.qt (Yd.l1 rfl (Rd.own (k := 0) rfl (tru_rd t (i := a) (by omega)).2))) rfl (g [[7]] ?_)
    refine WP.ret1 rfl rfl rfl (RV.tmp rfl) (fun w hI => ⟨ret_bool (by rw [Bool.eq_iff_iff]; simp_all [overT]), hI.keep⟩)
  try simp only [zq] at g15
  refine g [[17]] ?_
  refine WP.ret1 rfl rfl rfl (RV.tmp rfl) (fun w hI => ⟨ret_bool (by rw [Bool.eq_iff_iff]; simp_all [overT]), hI.keep⟩)
theorem overall_g (T : Tks) (a1 : Option Addr) (n1 c1 : Nat) (q : Nat) (D : Imm) (w : World) (hO : OffAt D q T (.slice a1 n1 c1)) (hR : TksR D T a1 n1) (hH : Holds D w) (hv : tksB T = true) (t : Tru) (a : Nat) (o : Int) (ha : a < 5) : Gives Tryz.prog 334 [.agg #[nt a, it o], pt q, truV t] w (.bool ((List.range T.l.length).any (overT t a))) := by
  unfold Gives
  obtain rfl := hR.tick.len'
  have hl1 := hR.len
  have h5 := (tks_num hv).2.1
  obtain ⟨a3, c3, hq, hS3, hc3⟩ := hO
  refine en Tryz.func334 rfl Tryz.ntmps334 (Inv.start hH) (g [[1],[1,0,1,2]] ?_)
  refine WL.so (SO.box rfl rfl) rfl (zw fun b3 hb3 => ?_)
  refine WL.so (SO.box rfl rfl) rfl (zw fun b5 hb5 => ?_)
  refine g [[5],[11,6,5,3,1]] ?_
  refine WC.loop (fun y : Nat × Int => [(1, pt q), (3, pt b3), (5, pt b5), (12, nt T.l.length), (13, nt y.1)]) (fun y => [(b5, .cells (List.toArray (truC t)) 150 (0, 0)), (b3, .cells (List.toArray [nt a, it y.2]) 181 (0, 0))]) (fun _ => D) (fun y => y.1 ≤ T.l.length ∧ ∀ i, i < y.1 → overT t a i = false) (fun y => T.l.length - y.1) (0, o) ⟨by omega, by intro i hi; omega⟩ (fun a w h => at_fr h ⟨rfl, rfl, rfl, rfl, rfl, trivial⟩) ?_
  rintro ⟨k, o⟩ ⟨hk, hd⟩
  dsimp only at hk hd
  refine g [[1],[5,1,3,5,12,13]] ?_
  refine WC.cond rfl (fun c14 => ?_) (fun c14 => ?_)
  · try simp only [zq] at c14
    refine g [[5],[7,1,3,5,12,13],[4,1,3,5,12,13]] ?_
    refine WL.cl rfl (fun w hI => (overis_g t a k (pt q) ha (by omega) _)) (g [[2]] ?_)
    refine WC.cond rfl (fun c20 => ?_) (fun c20 => ?_)
    · try simp only [zq] at c20
      refine g [[1],[10,1,3,5,12,13]] ?_
      refine WP.ret1 rfl rfl rfl (RV.tmp rfl) (fun w hI => ⟨ret_bool (Eq.symm (List.any_eq_true.2 ⟨k, List.mem_range.2 (by omega), c20⟩)), hI.keep⟩)
    try simp only [zq] at c20
    refine g [[3],[4,1,3,5,12,13]] ?_
    exact WP.again (⟨k + 1, (k : Int)⟩ : Nat × Int) ⟨by simp only; omega, ext_round hd c20⟩ (by simp only; omega) (fun aa ww h => at_fr h ⟨rfl, rfl, rfl, rfl, rfl, trivial⟩)
  try simp only [zq] at c14
  refine g [[6]] ?_
  refine WC.ofFr [] trivial (g [[5]] ?_)
  refine WP.ret1 rfl rfl rfl (RV.tmp rfl) (fun w hI => ⟨ret_bool (Eq.symm (by rw [List.any_eq_false]; intro i hi; rw [hd i (by have := List.mem_range.1 hi; omega)]; simp)), hI.keep⟩)
theorem turnis_g (T : Tks) (a1 : Option Addr) (n1 c1 : Nat) (q : Nat) (D : Imm) (w : World) (hO : OffAt D q T (.slice a1 n1 c1)) (hR : TksR D T a1 n1) (hH : Holds D w) (hv : tksB T = true) (t : Tru) (a : Nat) (ha : a < 5) : Gives Tryz.prog 336 [.agg #[nt a, it 0], pt q, truV t] w (.bool (turnT T.l.length t a)) := by
  unfold Gives
  refine en Tryz.func336 rfl Tryz.ntmps336 (Inv.start hH) (g [[1],[1,0,1,2]] ?_)
  refine WL.so (SO.box rfl rfl) rfl (zw fun b3 hb3 => ?_)
  refine WL.so (SO.box rfl rfl) rfl (zw fun b5 hb5 => ?_)
  refine g [[4],[5,6,5,3,1]] ?_
  refine WL.cl rfl (fun w hI => (overall_g T a1 n1 c1 q D _ hO hR hI.imm hv t a 0 ha)) (g [[5]] ?_)
  refine WP.ret1 rfl rfl rfl (RV.tmp rfl) (fun w hI => ⟨rfl, hI.keep⟩)
end Go.Proofs.YtejgofaeafphjaaGreatDoor
namespace Go.Proofs.YtejgofaeafphjaaGreatDoor
open Go.W Go.Ti
theorem SA178 : StructAt Tryz.prog 178 [.bool false, .bool false] [(0, 1), (1, 1)] := ⟨⟨_, Tryz.zeroValue178, rfl⟩, _, Tryz.underlying178, fun w => by simp [Tryz.sizeOf4]⟩
@[reducible, instance] def ISA178 := SaF.mk SA178
theorem any_take {α : Type} [Inhabited α] {f : α → Bool} {l : List α} {k : Nat} (hk : k < l.length) : (l.take (k + 1)).any f = ((l.take k).any f || f (gt l k)) := by
  have hg : gt l k = l[k] := by simp [gt, List.getD, hk]
  rw [List.take_succ_eq_append_getElem hk, List.any_append, hg]
  simp
theorem any_of_take {α : Type} {f : α → Bool} {l : List α} {k : Nat} (h : (l.take k).any f = true) : l.any f = true := by
  obtain ⟨x, hx, hf⟩ := List.any_eq_true.1 h
  exact List.any_eq_true.2 ⟨x, List.mem_of_mem_take hx, hf⟩
theorem any_split {α : Type} {f : α → Bool} {l : List α} (hne : l ≠ []) (h1 : l.any f = false) (h2 : (l.any fun x => !f x) = false) : False := by
  cases l with
  | nil => exact hne rfl
  | cons x l =>
    rw [List.any_cons] at h1 h2
    cases hf : f x <;> simp [hf] at h1 h2
theorem eqVd (a b c d : Bool) : ∀ w, (Op.equalIn 10000 178 (.agg #[.bool a, .bool b]) (.agg #[.bool c, .bool d])).run Tryz.prog w = .ok (a == c && b == d) w := by
  intro w
  cases a <;> cases b <;> cases c <;> cases d <;> simp [go_sem, Op.eqFields]
theorem toldv_g (a b : Bool) (w : World) : Gives Tryz.prog 119 [.agg #[.bool a, .bool b]] w (it (gradeI a b)) := by
  unfold Gives
  refine en Tryz.func119 rfl Tryz.ntmps119 zI (g [[1],[1,0]] ?_)
  refine WL.so (SO.box rfl rfl) rfl (zw fun b1 hb1 => ?_)
  refine g [[5],[6,2,1],[2,3,2]] ?_
  refine WL.yd (Yd.eqS EgF.h (eqVd _ _ _ _) rfl rfl) rfl (g [[3]] ?_)
  refine WC.cond rfl (fun c4 => ?_) (fun c4 => ?_)
  · try simp only [zq] at c4
    refine g [[1],[7,2]] ?_
    refine WP.ret1 rfl rfl rfl (RV.tmp rfl) (fun w hI => ⟨ret_int (by unfold gradeI; cases a <;> cases b <;> simp_all), hI.keep⟩)
  try simp only [zq] at c4
  refine g [[1],[2,3,2]] ?_
  refine WL.yd (Yd.eqS EgF.h (eqVd _ _ _ _) rfl rfl) rfl (g [[3]] ?_)
  refine WC.cond rfl (fun c7 => ?_) (fun c7 => ?_)
  · try simp only [zq] at c7
    refine g [[1],[7,2]] ?_
    refine WP.ret1 rfl rfl rfl (RV.tmp rfl) (fun w hI => ⟨ret_int (by unfold gradeI; cases a <;> cases b <;> simp_all), hI.keep⟩)
  try simp only [zq] at c7
  refine g [[4],[5,2]] ?_
  refine WP.ret1 rfl rfl rfl (RV.tmp rfl) (fun w hI => ⟨ret_int (by unfold gradeI; cases a <;> cases b <;> simp_all), hI.keep⟩)
theorem ask_ok (T : Tks) (a1 : Option Addr) (n1 c1 : Nat) (q : Nat) (D : Imm) (w : World) (hO : OffAt D q T (.slice a1 n1 c1)) (hR : TksR D T a1 n1) (hH : Holds D w) (hv : tksB T = true) (a : Nat) (ha : a < 5) (hne : allT T ≠ []) : Gives Tryz.prog 118 [pt q, .iface 183 (.agg #[nt a, it 0])] w (.agg #[.bool ((allT T).any (fun t => turnT T.l.length t a)), .bool ((allT T).any (fun t => !turnT T.l.length t a))]) := by
  unfold Gives
  obtain rfl := hR.tick.len'
  have hl1 := hR.len
  refine enM Tryz.func118 rfl Tryz.ntmps118 (Inv.start hH) (g [[1],[1,0,1]] ?_)
  refine WL.so (SO.box rfl rfl) rfl (zw fun b2 hb2 => ?_)
  refine WL.so (SO.box rfl rfl) rfl (zw fun b3 hb3 => ?_)
  refine WL.so (SO.alloc ZvF.h rfl) rfl (zw fun b4 hb4 => ?_)
  refine g [[4],[2,4,3,2]] ?_
  refine WL.so (SO.makes (Enters.func Tryz.call90 rfl) (fun w hI => truths_g q D _ hI.imm)) rfl ?_
  rintro _ D1 _ ⟨hX1, ⟨bt, rfl, hbt⟩, rfl⟩
  replace hO := hO.ext hX1
  replace hR := hR.ext hX1
  refine g [[3],[0,2,3,4,8]] ?_
  refine WC.rangeIterN (N := (allT T).length) (arg := fun k => truV (gt (allT T) k)) (fun w1 _ hD1 => truths1_iter T a1 _ c1 q bt D1 w1 hO hR hbt hv hD1) rfl Tryz.call177 rfl (fun k _ h => h = [(b4, .cells (List.toArray [.bool (((allT T).take k).any (fun t => turnT T.l.length t a)), .bool (((allT T).take k).any (fun t => !turnT T.l.length t a))]) 178 (0, 0)), (b3, .cells (List.toArray [.iface 183 (.agg #[nt a, it 0])]) 274 (0, 0)), (b2, .cells (List.toArray [pt q]) 141 (0, 0))]) (fun c _ h => c = .ret ∧ h = [(b4, .cells (List.toArray [.bool ((allT T).any (fun t => turnT T.l.length t a)), .bool ((allT T).any (fun t => !turnT T.l.length t a))]) 178 (0, 0)), (b3, .cells (List.toArray [.iface 183 (.agg #[nt a, it 0])]) 274 (0, 0)), (b2, .cells (List.toArray [pt q]) 141 (0, 0))] ∧ allT T ≠ []) (fun _ _ _ _ _ h => h) rfl ?_ ?_ ?_
  · rintro rec1 l1 Dn0 k D5 _ w1 hrec hk rfl hX5 hsz
    unfold RoundGN
    replace hO := hO.ext hX5
    replace hR := hR.ext hX5
    refine g [[1,9,2,3,4]] ?_
    refine WLF.so (zn rfl) (SO.alloc ZvF.h rfl) rfl (zw fun b5 hb5 => ?_)
    refine g [[2]] ?_
    refine WP.iterBegin 1 rfl hrec (g [[2],[4,5,2,3,4]] ?_)
    refine WLF.so (zn rfl) (SO.call (Enters.meth CaF.h (fun w => by kernel_rfl) rfl rfl) (fun w hI => turnis_g T a1 _ c1 q D5 _ hO hR hI.imm hv (gt (allT T) k) a ha)) rfl (zs (g [[4],[4,6,4]] ?_))
    refine WLF.part 16 rfl (fun g16 => ?_) (fun g16 => ?_)
    · try simp only [zq] at g16
      refine g [[5]] ?_
      refine WLF.part 21 rfl (fun g21 => ?_) (fun g21 => ?_)
      · try simp only [zq] at g21
        refine g [[8],[3,4]] ?_
        refine WLF.yd (zn rfl) (Yd.eqS EgF.h (eqVd _ _ _ _) rfl rfl) rfl (g [[2]] ?_)
        refine WCF.cond rfl (fun c28 => ?_) (fun c28 => ?_)
        · try simp only [zq] at c28
          refine g [[1],[7,4]] ?_
          have hA : (allT T).any (fun t => turnT T.l.length t a) = true := any_of_take (k := k + 1) (by rw [any_take hk]; simp_all)
          have hN : (allT T).any (fun t => !turnT T.l.length t a) = true := any_of_take (k := k + 1) (by rw [any_take hk]; simp_all)
          refine WP.iterRetN (h1 := [_, _, _]) (fun _ h => List.mem_cons_of_mem _ h) (fun h => (List.nodup_cons.1 h).2) (DExt.refl _ _) ⟨rfl, ?_, List.ne_nil_of_length_pos (by omega)⟩
          rw [hA, hN]
          first
            | rfl
            | (exfalso; revert c28; cases turnT T.l.length (gt (allT T) k) a <;> simp; done)
            | (have e : turnT T.l.length (gt (allT T) k) a = true := by simp_all
               rw [e]; rfl)
            | (have e : turnT T.l.length (gt (allT T) k) a = false := by simp_all
               rw [e]; rfl)
        try simp only [zq] at c28
        refine g [[2]] ?_
        refine WP.iterOnN hrec (h1 := [_, _, _]) (fun _ h => List.mem_cons_of_mem _ h) (fun h => (List.nodup_cons.1 h).2) (DExt.refl _ _) ?_
        rw [any_take hk, any_take hk, g16, g21]
        rfl
      try simp only [zq] at g21
      refine g [[8],[3,4]] ?_
      refine WLF.yd (zn rfl) (Yd.eqS EgF.h (eqVd _ _ _ _) rfl rfl) rfl (g [[2]] ?_)
      refine WCF.cond rfl (fun c28 => ?_) (fun c28 => ?_)
      · try simp only [zq] at c28
        refine g [[1],[7,4]] ?_
        have hA : (allT T).any (fun t => turnT T.l.length t a) = true := any_of_take (k := k + 1) (by rw [any_take hk]; simp_all)
        have hN : (allT T).any (fun t => !turnT T.l.length t a) = true := any_of_take (k := k + 1) (by rw [any_take hk]; simp_all)
        refine WP.iterRetN (h1 := [_, _, _]) (fun _ h => List.mem_cons_of_mem _ h) (fun h => (List.nodup_cons.1 h).2) (DExt.refl _ _) ⟨rfl, ?_, List.ne_nil_of_length_pos (by omega)⟩
        rw [hA, hN]
        first
          | rfl
          | (exfalso; revert c28; cases turnT T.l.length (gt (allT T) k) a <;> simp; done)
          | (have e : turnT T.l.length (gt (allT T) k) a = true := by simp_all
             rw [e]; rfl)
          | (have e : turnT T.l.length (gt (allT T) k) a = false := by simp_all
             rw [e]; rfl)
      try simp only [zq] at c28
      refine g [[2]] ?_
      refine WP.iterOnN hrec (h1 := [_, _, _]) (fun _ h => List.mem_cons_of_mem _ h) (fun h => (List.nodup_cons.1 h).2) (DExt.refl _ _) ?_
      rw [any_take hk, any_take hk, g16, g21]
      rfl
    try simp only [zq] at g16
    refine g [[5]] ?_
    refine WLF.part 21 rfl (fun g21 => ?_) (fun g21 => ?_)
    · try simp only [zq] at g21
      refine g [[8],[3,4]] ?_
      refine WLF.yd (zn rfl) (Yd.eqS EgF.h (eqVd _ _ _ _) rfl rfl) rfl (g [[2]] ?_)
      refine WCF.cond rfl (fun c28 => ?_) (fun c28 => ?_)
      · try simp only [zq] at c28
        refine g [[1],[7,4]] ?_
        have hA : (allT T).any (fun t => turnT T.l.length t a) = true := any_of_take (k := k + 1) (by rw [any_take hk]; simp_all)
        have hN : (allT T).any (fun t => !turnT T.l.length t a) = true := any_of_take (k := k + 1) (by rw [any_take hk]; simp_all)
        refine WP.iterRetN (h1 := [_, _, _]) (fun _ h => List.mem_cons_of_mem _ h) (fun h => (List.nodup_cons.1 h).2) (DExt.refl _ _) ⟨rfl, ?_, List.ne_nil_of_length_pos (by omega)⟩
        rw [hA, hN]
        first
          | rfl
          | (exfalso; revert c28; cases turnT T.l.length (gt (allT T) k) a <;> simp; done)
          | (have e : turnT T.l.length (gt (allT T) k) a = true := by simp_all
             rw [e]; rfl)
          | (have e : turnT T.l.length (gt (allT T) k) a = false := by simp_all
             rw [e]; rfl)
      try simp only [zq] at c28
      refine g [[2]] ?_
      refine WP.iterOnN hrec (h1 := [_, _, _]) (fun _ h => List.mem_cons_of_mem _ h) (fun h => (List.nodup_cons.1 h).2) (DExt.refl _ _) ?_
      rw [any_take hk, any_take hk, g16, g21]
      rfl
    try simp only [zq] at g21
    refine g [[8],[3,4]] ?_
    refine WLF.yd (zn rfl) (Yd.eqS EgF.h (eqVd _ _ _ _) rfl rfl) rfl (g [[2]] ?_)
    refine WCF.cond rfl (fun c28 => ?_) (fun c28 => ?_)
    · try simp only [zq] at c28
      refine g [[1],[7,4]] ?_
      have hA : (allT T).any (fun t => turnT T.l.length t a) = true := any_of_take (k := k + 1) (by rw [any_take hk]; simp_all)
      have hN : (allT T).any (fun t => !turnT T.l.length t a) = true := any_of_take (k := k + 1) (by rw [any_take hk]; simp_all)
      refine WP.iterRetN (h1 := [_, _, _]) (fun _ h => List.mem_cons_of_mem _ h) (fun h => (List.nodup_cons.1 h).2) (DExt.refl _ _) ⟨rfl, ?_, List.ne_nil_of_length_pos (by omega)⟩
      rw [hA, hN]
      first
        | rfl
        | (exfalso; revert c28; cases turnT T.l.length (gt (allT T) k) a <;> simp; done)
        | (have e : turnT T.l.length (gt (allT T) k) a = true := by simp_all
           rw [e]; rfl)
        | (have e : turnT T.l.length (gt (allT T) k) a = false := by simp_all
           rw [e]; rfl)
    try simp only [zq] at c28
    refine g [[2]] ?_
    refine WP.iterOnN hrec (h1 := [_, _, _]) (fun _ h => List.mem_cons_of_mem _ h) (fun h => (List.nodup_cons.1 h).2) (DExt.refl _ _) ?_
    rw [any_take hk, any_take hk, g16, g21]
    rfl
  · rintro Dn1 D6 _ hDn1 hX6 rfl
    rw [List.take_length]
    refine g [[3],[4,4]] ?_
    refine WL.part 32 rfl (fun g32 => ?_) (fun g32 => ?_)
    · try simp only [zq] at g32
      refine g [[3]] ?_
      refine WL.cl rfl (fun w hI => mustK_ok _ _) (g [[3],[6,4]] ?_)
      refine WP.retMs [Dn1] [_, _, _] [_] [_] rfl rfl (fun _ h => h) (fun h => h) rfl zV (fun w hI => ⟨rfl, hI.keep⟩)
    try simp only [zq] at g32
    refine g [[3]] ?_
    refine WL.part 35 rfl (fun g35 => ?_) (fun g35 => ?_)
    · try simp only [zq] at g35
      refine WL.cl rfl (fun w hI => mustK_ok _ _) (g [[3],[6,4]] ?_)
      refine WP.retMs [Dn1] [_, _, _] [_] [_] rfl rfl (fun _ h => h) (fun h => h) rfl zV (fun w hI => ⟨rfl, hI.keep⟩)
    try simp only [zq] at g35
    exact (any_split hne g32 g35).elim
  rintro Dn1 c D6 _ hDn1 hX6 ⟨rfl, rfl, hne2⟩
  refine g [[3]] ?_
  refine WP.retMs [Dn1] [_, _, _] [_] [_] rfl rfl (fun _ h => h) (fun h => h) rfl zV (fun w hI => ⟨rfl, hI.keep⟩)
theorem ask_no (T : Tks) (a1 : Option Addr) (n1 c1 : Nat) (q : Nat) (D : Imm) (w : World) (hO : OffAt D q T (.slice a1 n1 c1)) (hR : TksR D T a1 n1) (hH : Holds D w) (hv : tksB T = true) (a : Nat) (ha : a < 5) (hne : allT T = []) : Fails Tryz.prog 118 [pt q, .iface 183 (.agg #[nt a, it 0])] w (stopK 10) := by
  unfold Fails
  obtain rfl := hR.tick.len'
  have hl1 := hR.len
  refine enM Tryz.func118 rfl Tryz.ntmps118 (Inv.start hH) (g [[1],[1,0,1]] ?_)
  refine WL.so (SO.box rfl rfl) rfl (zw fun b2 hb2 => ?_)
  refine WL.so (SO.box rfl rfl) rfl (zw fun b3 hb3 => ?_)
  refine WL.so (SO.alloc ZvF.h rfl) rfl (zw fun b4 hb4 => ?_)
  refine g [[4],[2,4,3,2]] ?_
  refine WL.so (SO.makes (Enters.func Tryz.call90 rfl) (fun w hI => truths_g q D _ hI.imm)) rfl ?_
  rintro _ D1 _ ⟨hX1, ⟨bt, rfl, hbt⟩, rfl⟩
  replace hO := hO.ext hX1
  replace hR := hR.ext hX1
  refine g [[3],[0,2,3,4,8]] ?_
  refine WC.rangeIterN (N := (allT T).length) (arg := fun k => truV (gt (allT T) k)) (fun w1 _ hD1 => truths1_iter T a1 _ c1 q bt D1 w1 hO hR hbt hv hD1) rfl Tryz.call177 rfl (fun k _ h => h = [(b4, .cells (List.toArray [.bool (((allT T).take k).any (fun t => turnT T.l.length t a)), .bool (((allT T).take k).any (fun t => !turnT T.l.length t a))]) 178 (0, 0)), (b3, .cells (List.toArray [.iface 183 (.agg #[nt a, it 0])]) 274 (0, 0)), (b2, .cells (List.toArray [pt q]) 141 (0, 0))]) (fun c _ h => c = .ret ∧ h = [(b4, .cells (List.toArray [.bool ((allT T).any (fun t => turnT T.l.length t a)), .bool ((allT T).any (fun t => !turnT T.l.length t a))]) 178 (0, 0)), (b3, .cells (List.toArray [.iface 183 (.agg #[nt a, it 0])]) 274 (0, 0)), (b2, .cells (List.toArray [pt q]) 141 (0, 0))] ∧ allT T ≠ []) (fun _ _ _ _ _ h => h) rfl ?_ ?_ ?_
  · rintro rec1 l1 Dn0 k D5 _ w1 hrec hk rfl hX5 hsz
    unfold RoundGN
    replace hO := hO.ext hX5
    replace hR := hR.ext hX5
    refine g [[1,9,2,3,4]] ?_
    refine WLF.so (zn rfl) (SO.alloc ZvF.h rfl) rfl (zw fun b5 hb5 => ?_)
    refine g [[2]] ?_
    refine WP.iterBegin 1 rfl hrec (g [[2],[4,5,2,3,4]] ?_)
    refine WLF.so (zn rfl) (SO.call (Enters.meth CaF.h (fun w => by kernel_rfl) rfl rfl) (fun w hI => turnis_g T a1 _ c1 q D5 _ hO hR hI.imm hv (gt (allT T) k) a ha)) rfl (zs (g [[4],[4,6,4]] ?_))
    refine WLF.part 16 rfl (fun g16 => ?_) (fun g16 => ?_)
    · try simp only [zq] at g16
      refine g [[5]] ?_
      refine WLF.part 21 rfl (fun g21 => ?_) (fun g21 => ?_)
      · try simp only [zq] at g21
        refine g [[8],[3,4]] ?_
        refine WLF.yd (zn rfl) (Yd.eqS EgF.h (eqVd _ _ _ _) rfl rfl) rfl (g [[2]] ?_)
        refine WCF.cond rfl (fun c28 => ?_) (fun c28 => ?_)
        · try simp only [zq] at c28
          refine g [[1],[7,4]] ?_
          have hA : (allT T).any (fun t => turnT T.l.length t a) = true := any_of_take (k := k + 1) (by rw [any_take hk]; simp_all)
          have hN : (allT T).any (fun t => !turnT T.l.length t a) = true := any_of_take (k := k + 1) (by rw [any_take hk]; simp_all)
          refine WP.iterRetN (h1 := [_, _, _]) (fun _ h => List.mem_cons_of_mem _ h) (fun h => (List.nodup_cons.1 h).2) (DExt.refl _ _) ⟨rfl, ?_, List.ne_nil_of_length_pos (by omega)⟩
          rw [hA, hN]
          first
            | rfl
            | (exfalso; revert c28; cases turnT T.l.length (gt (allT T) k) a <;> simp; done)
            | (have e : turnT T.l.length (gt (allT T) k) a = true := by simp_all
               rw [e]; rfl)
            | (have e : turnT T.l.length (gt (allT T) k) a = false := by simp_all
               rw [e]; rfl)
        try simp only [zq] at c28
        refine g [[2]] ?_
        refine WP.iterOnN hrec (h1 := [_, _, _]) (fun _ h => List.mem_cons_of_mem _ h) (fun h => (List.nodup_cons.1 h).2) (DExt.refl _ _) ?_
        rw [any_take hk, any_take hk, g16, g21]
        rfl
      try simp only [zq] at g21
      refine g [[8],[3,4]] ?_
      refine WLF.yd (zn rfl) (Yd.eqS EgF.h (eqVd _ _ _ _) rfl rfl) rfl (g [[2]] ?_)
      refine WCF.cond rfl (fun c28 => ?_) (fun c28 => ?_)
      · try simp only [zq] at c28
        refine g [[1],[7,4]] ?_
        have hA : (allT T).any (fun t => turnT T.l.length t a) = true := any_of_take (k := k + 1) (by rw [any_take hk]; simp_all)
        have hN : (allT T).any (fun t => !turnT T.l.length t a) = true := any_of_take (k := k + 1) (by rw [any_take hk]; simp_all)
        refine WP.iterRetN (h1 := [_, _, _]) (fun _ h => List.mem_cons_of_mem _ h) (fun h => (List.nodup_cons.1 h).2) (DExt.refl _ _) ⟨rfl, ?_, List.ne_nil_of_length_pos (by omega)⟩
        rw [hA, hN]
        first
          | rfl
          | (exfalso; revert c28; cases turnT T.l.length (gt (allT T) k) a <;> simp; done)
          | (have e : turnT T.l.length (gt (allT T) k) a = true := by simp_all
             rw [e]; rfl)
          | (have e : turnT T.l.length (gt (allT T) k) a = false := by simp_all
             rw [e]; rfl)
      try simp only [zq] at c28
      refine g [[2]] ?_
      refine WP.iterOnN hrec (h1 := [_, _, _]) (fun _ h => List.mem_cons_of_mem _ h) (fun h => (List.nodup_cons.1 h).2) (DExt.refl _ _) ?_
      rw [any_take hk, any_take hk, g16, g21]
      rfl
    try simp only [zq] at g16
    refine g [[5]] ?_
    refine WLF.part 21 rfl (fun g21 => ?_) (fun g21 => ?_)
    · try simp only [zq] at g21
      refine g [[8],[3,4]] ?_
      refine WLF.yd (zn rfl) (Yd.eqS EgF.h (eqVd _ _ _ _) rfl rfl) rfl (g [[2]] ?_)
      refine WCF.cond rfl (fun c28 => ?_) (fun c28 => ?_)
      · try simp only [zq] at c28
        refine g [[1],[7,4]] ?_
        have hA : (allT T).any (fun t => turnT T.l.length t a) = true := any_of_take (k := k + 1) (by rw [any_take hk]; simp_all)
        have hN : (allT T).any (fun t => !turnT T.l.length t a) = true := any_of_take (k := k + 1) (by rw [any_take hk]; simp_all)
        refine WP.iterRetN (h1 := [_, _, _]) (fun _ h => List.mem_cons_of_mem _ h) (fun h => (List.nodup_cons.1 h).2) (DExt.refl _ _) ⟨rfl, ?_, List.ne_nil_of_length_pos (by omega)⟩
        rw [hA, hN]
        first
          | rfl
          | (exfalso; revert c28; cases turnT T.l.length (gt (allT T) k) a <;> simp; done)
          | (have e : turnT T.l.length (gt (allT T) k) a = true := by simp_all
             rw [e]; rfl)
          | (have e : turnT T.l.length (gt (allT T) k) a = false := by simp_all
             rw [e]; rfl)
      try simp only [zq] at c28
      refine g [[2]] ?_
      refine WP.iterOnN hrec (h1 := [_, _, _]) (fun _ h => List.mem_cons_of_mem _ h) (fun h => (List.nodup_cons.1 h).2) (DExt.refl _ _) ?_
      rw [any_take hk, any_take hk, g16, g21]
      rfl
    try simp only [zq] at g21
    refine g [[8],[3,4]] ?_
    refine WLF.yd (zn rfl) (Yd.eqS EgF.h (eqVd _ _ _ _) rfl rfl) rfl (g [[2]] ?_)
    refine WCF.cond rfl (fun c28 => ?_) (fun c28 => ?_)
    · try simp only [zq] at c28
      refine g [[1],[7,4]] ?_
      have hA : (allT T).any (fun t => turnT T.l.length t a) = true := any_of_take (k := k + 1) (by rw [any_take hk]; simp_all)
      have hN : (allT T).any (fun t => !turnT T.l.length t a) = true := any_of_take (k := k + 1) (by rw [any_take hk]; simp_all)
      refine WP.iterRetN (h1 := [_, _, _]) (fun _ h => List.mem_cons_of_mem _ h) (fun h => (List.nodup_cons.1 h).2) (DExt.refl _ _) ⟨rfl, ?_, List.ne_nil_of_length_pos (by omega)⟩
      rw [hA, hN]
      first
        | rfl
        | (exfalso; revert c28; cases turnT T.l.length (gt (allT T) k) a <;> simp; done)
        | (have e : turnT T.l.length (gt (allT T) k) a = true := by simp_all
           rw [e]; rfl)
        | (have e : turnT T.l.length (gt (allT T) k) a = false := by simp_all
           rw [e]; rfl)
    try simp only [zq] at c28
    refine g [[2]] ?_
    refine WP.iterOnN hrec (h1 := [_, _, _]) (fun _ h => List.mem_cons_of_mem _ h) (fun h => (List.nodup_cons.1 h).2) (DExt.refl _ _) ?_
    rw [any_take hk, any_take hk, g16, g21]
    rfl
  · rintro Dn1 D6 _ hDn1 hX6 rfl
    rw [List.take_length]
    refine g [[3],[4,4]] ?_
    refine WL.part 32 rfl (fun g32 => ?_) (fun g32 => ?_)
    · try simp only [zq] at g32
      rw [hne] at g32; cases g32
    try simp only [zq] at g32
    refine g [[3]] ?_
    refine WL.part 35 rfl (fun g35 => ?_) (fun g35 => ?_)
    · try simp only [zq] at g35
      rw [hne] at g35; cases g35
    try simp only [zq] at g35
    refine WL.nf rfl (fun w hI => mustK_no _ _) (g [[1]] ?_)
    exact WP.panicMs [Dn1] [_, _, _] rfl (fun _ h => h) (fun h => h) (fun w hI => ⟨rfl, hI.keep⟩)
  rintro Dn1 c D6 _ hDn1 hX6 ⟨rfl, rfl, hne2⟩
  exact absurd hne hne2
end Go.Proofs.YtejgofaeafphjaaGreatDoor
namespace Go.Ti
open Go.W (gt gt_of)
abbrev Ms := Bool × Int × Int
def seeS (s : Ms) (n : Int) : Ms := (true, if s.1 then min s.2.1 n else n, if s.1 then max s.2.2 n else n)
def foldS (g : Tru → Int) (l : List Tru) : Ms := l.foldl (fun s t => seeS s (g t)) (false, 0, 0)
def spanS (g : Tru → Int) (l : List Tru) : Sp := ⟨(foldS g l).2.1, (foldS g l).2.2⟩
theorem foldS_take (g : Tru → Int) {l : List Tru} {k : Nat} (hk : k < l.length) : foldS g (l.take (k + 1)) = seeS (foldS g (l.take k)) (g (gt l k)) := by
  have hg : gt l k = l[k] := by simp [gt, List.getD, hk]
  unfold foldS
  rw [List.take_succ_eq_append_getElem hk, List.foldl_append, hg]
  rfl
structure IsSpan (g : Tru → Int) (l : List Tru) (s : Sp) : Prop where
  lo : ∃ t, t ∈ l ∧ g t = s.lo
  hi : ∃ t, t ∈ l ∧ g t = s.hi
  mem : ∀ t, t ∈ l → s.lo ≤ g t ∧ g t ≤ s.hi
theorem foldS_spec (g : Tru → Int) : ∀ (l l0 : List Tru) (s : Ms), (l0 = [] ∧ s.1 = false ∨ s.1 = true ∧ IsSpan g l0 ⟨s.2.1, s.2.2⟩) → l0 ++ l ≠ [] →
    IsSpan g (l0 ++ l) ⟨(l.foldl (fun s t => seeS s (g t)) s).2.1, (l.foldl (fun s t => seeS s (g t)) s).2.2⟩ := by
  intro l
  induction l with
  | nil =>
    intro l0 s h hne
    rw [List.append_nil] at hne ⊢
    rcases h with ⟨h, _⟩ | ⟨_, h⟩
    · exact absurd h hne
    · exact h
  | cons t l ih =>
    intro l0 s h hne
    have := ih (l0 ++ [t]) (seeS s (g t)) (.inr ⟨rfl, ?_⟩) (by simp)
    · rw [List.append_assoc] at this
      exact this
    · rcases h with ⟨rfl, h⟩ | ⟨h, hs⟩
      · refine ⟨⟨t, by simp, ?_⟩, ⟨t, by simp, ?_⟩, fun u hu => ?_⟩
        · simp [seeS, h]
        · simp [seeS, h]
        · have : u = t := by simpa using hu
          subst this
          simp [seeS, h]
      · obtain ⟨⟨a, ha, ha2⟩, ⟨b, hb, hb2⟩, hm⟩ := hs
        simp only at ha2 hb2 hm
        simp only [seeS, h, if_true]
        refine ⟨?_, ?_, fun u hu => ?_⟩
        · rcases Int.le_total s.2.1 (g t) with h1 | h1
          · exact ⟨a, by simp [ha], by simp only; omega⟩
          · exact ⟨t, by simp, by simp only; omega⟩
        · rcases Int.le_total s.2.2 (g t) with h1 | h1
          · exact ⟨t, by simp, by simp only; omega⟩
          · exact ⟨b, by simp [hb], by simp only; omega⟩
        · rcases List.mem_append.1 hu with hu | hu
          · have := hm u hu; simp only; omega
          · have : u = t := by simpa using hu
            subst this
            simp only; omega
theorem spanS_spec (g : Tru → Int) {l : List Tru} (h : l ≠ []) : IsSpan g l (spanS g l) := by
  have := foldS_spec g l [] (false, 0, 0) (.inl ⟨rfl, rfl⟩) (by simpa using h)
  simpa [spanS, foldS] using this
def TurnOut (T : Tks) (n : Int) : Int × Int := if tksE T (isT T n) ≠ 0 then (0, tksE T (isT T n)) else (gradeI ((allT T).any fun t => turnT T.l.length t n.toNat) ((allT T).any fun t => !turnT T.l.length t n.toNat), 0)
def MinutesOut (T : Tks) (n : Int) : Sp × Sp × Int := if tksE T (isT T n) ≠ 0 then (⟨0, 0⟩, ⟨0, 0⟩, tksE T (isT T n)) else (spanS (fun t => (t n.toNat).1) (allT T), spanS (fun t => (t n.toNat).2) (allT T), 0)
def WaitsOut (T : Tks) : Sp × Int := if tksE T true ≠ 0 then (⟨0, 0⟩, tksE T true) else (spanS (longT T.l.length) (allT T), 0)
end Go.Ti
