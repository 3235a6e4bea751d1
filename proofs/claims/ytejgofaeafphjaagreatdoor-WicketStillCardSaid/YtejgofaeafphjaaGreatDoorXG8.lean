import Derived.Test.YtejgofaeafphjaaGreatDoorXG3
import Derived.Test.YtejgofaeafphjaaGreatDoorRows
import Derived.Test.YtejgofaeafphjaaGreatDoorXG1
import Derived.Test.YtejgofaeafphjaaGreatDoorXG0
import Derived.Test.YtejgofaeafphjaaGreatDoorXG2
import Derived.Test.YtejgofaeafphjaaGreatDoorXG7
set_option linter.all false
set_option maxRecDepth 100000
set_option maxHeartbeats 4000000
attribute [local irreducible] Go.W.WL Go.W.WLF Go.W.WC Go.W.WCF Go.W.WP Go.W.WA Go.W.WQ Go.W.WH Go.W.WHo Go.W.WCn Go.W.Yd Go.W.Qt Go.W.SO Go.Code.wp Go.Code.wpIn
namespace Go.Ti
open Go.W (gt wX)
structure Sp where
  lo : Int
  hi : Int
deriving DecidableEq, Inhabited
structure Tick where
  bought : Sp
  hut : Int
  door : Sp
deriving DecidableEq, Inhabited
structure Tks where
  huts : Int
  l : List Tick
structure Ent where
  ticket : Int
  kind : Int
  pence : Int
deriving DecidableEq, Inhabited
structure Till where
  tk : Tks
  price : Int
  fine : Int
  wait : Int
theorem yE {α : Type} [Inhabited α] {l : List α} {i : Nat} (h : i < l.length) : gt l i ∈ l := by
  have : gt l i = l[i] := by simp [gt, List.getD, h]
  rw [this]; exact List.getElem_mem h
theorem zcr {α : Type} [Inhabited α] {l : List α} {i : Nat} (h : l.length ≤ i) : gt l i = default := by
  simp [gt, List.getD, h]
theorem uU {α : Type} [Inhabited α] {l : List α} {x : α} (h : x ∈ l) : ∃ i, i < l.length ∧ gt l i = x := by
  obtain ⟨i, hi, rfl⟩ := List.getElem_of_mem h;exact ⟨i, hi, by simp [gt, List.getD, hi]⟩
theorem wv {α : Type} [Inhabited α] {l : List α} {p : α → Bool} : l.all p = true ↔ ∀ i, i < l.length → p (gt l i) = true := by
  rw [List.all_eq_true];constructor
  · intro h i hi; exact h _ (yE hi)
  · intro h x hx;obtain ⟨i, hi, rfl⟩ := uU hx;exact h i hi
theorem zZ {p : Nat → Prop} {k : Nat} (h : ∀ i, i < k → p i) (hk : p k) : ∀ i, i < k + 1 → p i := fun i hi => by
  rcases Nat.lt_or_ge i k with h' | h'
  · exact h i h'
  · have : i = k := by omega
    rw [this]; exact hk
theorem VR {α : Type} [Inhabited α] (l : List α) (i j : Nat) (x : α) (hi : i < l.length) : gt (l.set i x) j = if i = j then x else gt l j := by
  simp only [gt, List.getD, List.getElem?_set];split
  · rename_i e; subst e; simp [hi]
  · rfl
theorem YA {α : Type} [Inhabited α] {l m : List α} {i : Nat} (h : i < l.length) : gt (l ++ m) i = gt l i := by
  simp [gt, List.getD, List.getElem?_append_left h]
theorem qk {n i : Nat} (h : i < n) : gt (List.range n) i = i := by
  simp [gt, List.getD, h]
theorem j1 {l : List Nat} (h : l.Nodup) {i j : Nat} (hi : i < l.length) (hj : j < l.length) (e : gt l i = gt l j) : i = j := by
  have h2 := List.pairwise_iff_getElem.1 h;have a1 : gt l i = l[i] := by simp [gt, List.getD, hi]
  have a2 : gt l j = l[j] := by simp [gt, List.getD, hj]
  rw [a1, a2] at e;rcases Nat.lt_trichotomy i j with h3 | h3 | h3
  · exact absurd e (h2 i j hi hj h3)
  · exact h3
  · exact absurd e.symm (h2 j i hj hi h3)
def inB (n lo hi : Int) : Bool := decide (lo ≤ n ∧ n ≤ hi)
def vX (s : Sp) : Bool := decide (0 ≤ s.lo ∧ s.lo ≤ s.hi ∧ s.hi ≤ 240 ∧ s.hi - s.lo ≤ 2)
def hutT (T : Tks) (n : Int) : Bool := decide (0 ≤ n ∧ n ≤ T.huts - 1)
def isT (T : Tks) (n : Int) : Bool := decide (0 ≤ n ∧ n ≤ (T.l.length : Int) - 1)
def vn (T : Tks) (x : Tick) : Bool := hutT T x.hut && vX x.bought && vX x.door
def tksB (T : Tks) : Bool := decide (1 ≤ T.huts ∧ T.huts ≤ 4) && decide (T.l.length ≤ 5) && T.l.all (vn T)
theorem yv (T : Tks) : tksB T = true ↔ (1 ≤ T.huts ∧ T.huts ≤ 4) ∧ T.l.length ≤ 5 ∧ ∀ i, i < T.l.length → vn T (gt T.l i) = true := by
  simp only [tksB, Bool.and_eq_true, decide_eq_true_eq, wv, and_assoc]
theorem y8 {T : Tks} (h : tksB T = true) : (1 ≤ T.huts ∧ T.huts ≤ 4) ∧ T.l.length ≤ 5 ∧ ∀ i, i < T.l.length →
    (0 ≤ (gt T.l i).hut ∧ (gt T.l i).hut < T.huts) ∧ (0 ≤ (gt T.l i).bought.lo ∧ (gt T.l i).bought.lo ≤ (gt T.l i).bought.hi ∧ (gt T.l i).bought.hi ≤ 240 ∧ (gt T.l i).bought.hi - (gt T.l i).bought.lo ≤ 2) ∧
    (0 ≤ (gt T.l i).door.lo ∧ (gt T.l i).door.lo ≤ (gt T.l i).door.hi ∧ (gt T.l i).door.hi ≤ 240 ∧ (gt T.l i).door.hi - (gt T.l i).door.lo ≤ 2) := by
  obtain ⟨h1, h2, h3⟩ := (yv T).1 h;refine ⟨h1, h2, fun i hi => ?_⟩;have := h3 i hi;simp only [vn, hutT, vX, Bool.and_eq_true, decide_eq_true_eq] at this;obtain ⟨⟨a, b⟩, c⟩ := this;exact ⟨by omega, b, c⟩
def sink (less : Nat → Nat → Bool) : Nat → List Nat → List Nat
  | 0, l => l
  | j + 1, l => if less (gt l (j + 1)) (gt l j) then sink less j ((l.set (j + 1) (gt l j)).set j (gt l (j + 1))) else l
def insT (less : Nat → Nat → Bool) : Nat → List Nat → List Nat
  | 0, l => l
  | k + 1, l => sink less (k + 1) (insT less k l)
theorem XS (less : Nat → Nat → Bool) : ∀ j l, (sink less j l).length = l.length := by
  intro j
  induction j with
  | zero => intro l; rfl
  | succ j ih =>
    intro l;unfold sink;split
    · rw [ih]; simp
    · rfl
def swp (l : List Nat) (i j : Nat) : List Nat := (l.set i (gt l j)).set j (gt l i)
theorem Ks {l : List Nat} {i j : Nat} (hi : i < l.length) (hj : j < l.length) (k : Nat) : gt (swp l i j) k = if k = j then gt l i else if k = i then gt l j else gt l k := by
  unfold swp;rw [VR _ _ _ _ (by simpa using hj), VR _ _ _ _ hi];by_cases h1 : j = k
  · rw [if_pos h1, if_pos h1.symm]
  · rw [if_neg h1];by_cases h2 : i = k
    · rw [if_pos h2, if_neg (fun h => h1 h.symm), if_pos h2.symm]
    · rw [if_neg h2, if_neg (fun h => h1 h.symm), if_neg (fun h => h2 h.symm)]
theorem JN {lt : Nat → Nat → Prop} {less : Nat → Nat → Bool} (htr : ∀ a b c, lt a b → lt b c → lt a c) (k : Nat) : ∀ j (l : List Nat), j ≤ k → k < l.length → l.Nodup → (∀ i, i < l.length → gt l i < l.length) →
    (∀ a b, a < b → b ≤ k → a ≠ j → b ≠ j → lt (gt l a) (gt l b)) → (∀ b, j < b → b ≤ k → lt (gt l j) (gt l b)) →
    (∀ a, a < j → (less (gt l j) (gt l a) = true → lt (gt l j) (gt l a)) ∧ (less (gt l j) (gt l a) = false → lt (gt l a) (gt l j))) →
    (sink less j l).Perm l ∧ (∀ a b, a < b → b ≤ k → lt (gt (sink less j l) a) (gt (sink less j l) b)) ∧ (∀ i, k < i → gt (sink less j l) i = gt l i) := by
  intro j
  induction j with
  | zero =>
    intro l hj hk hnd hin hs hx hl;refine ⟨List.Perm.refl _, fun a b hab hb => ?_, fun i _ => rfl⟩
    show lt (gt l a) (gt l b);by_cases h0 : a = 0
    · subst h0; exact hx b hab hb
    · exact hs a b hab hb h0 (by omega)
  | succ j ih =>
    intro l hj hk hnd hin hs hx hl;unfold sink;obtain ⟨hl1, hl2⟩ := hl j (by omega);by_cases hc : less (gt l (j + 1)) (gt l j) = true
    · rw [if_pos hc];have hlt := hl1 hc;have e : (l.set (j + 1) (gt l j)).set j (gt l (j + 1)) = swp l (j + 1) j := rfl;rw [e];have hg := Ks (l := l) (i := j + 1) (j := j) (by omega) (by omega);have hlen : (swp l (j + 1) j).length = l.length := by simp [swp]
      have hperm : (swp l (j + 1) j).Perm l := by
        have h1 : gt l j = l[j]'(by omega) := by simp [gt, List.getD, show j < l.length by omega]
        have h2 : gt l (j + 1) = l[j + 1]'(by omega) := by simp [gt, List.getD, show j + 1 < l.length by omega]
        unfold swp;rw [h1, h2];exact List.set_set_perm (by omega) (by omega)
      have hgj : gt (swp l (j + 1) j) j = gt l (j + 1) := by rw [hg, if_pos rfl]
      obtain ⟨h1, h2, h3⟩ := ih (swp l (j + 1) j) (by omega) (by omega) (hperm.nodup_iff.2 hnd)
        (fun i hi => by
          rw [hlen] at hi ⊢;rw [hg];split
          · exact hin _ (by omega)
          · split
            · exact hin _ (by omega)
            · exact hin _ hi)
        (fun a b hab hb ha hbj => by
          rw [hg, hg, if_neg ha, if_neg hbj];by_cases e1 : a = j + 1
          · rw [if_pos e1, if_neg (by omega)];exact hs j b (by omega) hb (by omega) (by omega)
          · rw [if_neg e1];by_cases e2 : b = j + 1
            · rw [if_pos e2];exact hs a j (by omega) (by omega) (by omega) (by omega)
            · rw [if_neg e2];exact hs a b hab hb e1 e2)
        (fun b hjb hb => by
          rw [hgj, hg, if_neg (by omega)];by_cases e2 : b = j + 1
          · rw [if_pos e2]; exact hlt
          · rw [if_neg e2];exact hx b (by omega) hb)
        (fun a ha => by
          rw [hgj, hg, if_neg (by omega), if_neg (by omega)];exact hl a (by omega))
      refine ⟨h1.trans hperm, h2, fun i hi => ?_⟩;rw [h3 i hi, hg, if_neg (by omega), if_neg (by omega)]
    · rw [if_neg hc];have hlt := hl2 (by simpa using hc);refine ⟨List.Perm.refl _, fun a b hab hb => ?_, fun i _ => rfl⟩;by_cases e1 : a = j + 1
      · subst e1; exact hx b hab hb
      · by_cases e2 : b = j + 1
        · subst e2;by_cases e3 : a = j
          · subst e3; exact hlt
          · exact htr _ _ _ (hs a j (by omega) (by omega) (by omega) (by omega)) hlt
        · exact hs a b hab hb e1 e2
def lexB (key : Nat → Int) (a b : Nat) : Prop := key a < key b ∨ (key a = key b ∧ a < b)
theorem zaB {key : Nat → Int} : ∀ a b c, lexB key a b → lexB key b c → lexB key a c := by
  intro a b c h1 h2;unfold lexB at *;omega
def yR (key : Nat → Int) (a b : Nat) : Bool := decide (key a < key b)
theorem Xt (key : Nat → Int) (n : Nat) : ∀ k, k < n → (insT (yR key) k (List.range n)).Perm (List.range n) ∧
    (∀ a b, a < b → b ≤ k → lexB key (gt (insT (yR key) k (List.range n)) a) (gt (insT (yR key) k (List.range n)) b)) ∧ (∀ i, k < i → gt (insT (yR key) k (List.range n)) i = gt (List.range n) i) ∧
    (∀ i, i ≤ k → gt (insT (yR key) k (List.range n)) i ≤ k) := by
  intro k
  induction k with
  | zero =>
    intro hn;refine ⟨List.Perm.refl _, fun a b hab hb => by omega, fun i _ => rfl, fun i hi => ?_⟩;obtain rfl : i = 0 := by omega
    show gt (List.range n) 0 ≤ 0;rw [qk hn]; exact Nat.le_refl _
  | succ k ih =>
    intro hn;obtain ⟨h1, h2, h3, h4⟩ := ih (by omega);have hlen := h1.length_eq;rw [List.length_range] at hlen;have hk1 : gt (insT (yR key) k (List.range n)) (k + 1) = k + 1 := by rw [h3 _ (by omega), qk hn]
    have hnd : (insT (yR key) k (List.range n)).Nodup := h1.nodup_iff.2 List.nodup_range
    have hin : ∀ i, i < (insT (yR key) k (List.range n)).length → gt (insT (yR key) k (List.range n)) i < (insT (yR key) k (List.range n)).length := fun i hi => by
      have := h1.mem_iff.1 (yE hi);rw [hlen]; exact List.mem_range.1 this
    obtain ⟨g1, g2, g3⟩ := JN (lt := lexB key) (less := yR key) zaB (k + 1) (k + 1) (insT (yR key) k (List.range n)) (Nat.le_refl _) (by rw [hlen]; exact hn) hnd hin
      (fun a b hab hb ha hbk => h2 a b hab (by omega)) (fun b hb hb2 => by omega)
      (fun a ha => by
        have h5 := h4 a (by omega);rw [hk1];refine ⟨fun h => .inl (of_decide_eq_true h), fun h => ?_⟩;have h6 : ¬ key (k + 1) < key (gt (insT (yR key) k (List.range n)) a) := of_decide_eq_false h;unfold lexB;omega)
    refine ⟨g1.trans h1, g2, fun i hi => by show gt (sink _ _ _) i = _; rw [g3 i hi, h3 i (by omega)], fun i hi => ?_⟩
    show gt (sink (yR key) (k + 1) (insT (yR key) k (List.range n))) i ≤ k + 1
    -- the rest stands still: so what is ahead of it is from ahead of it
    rcases Nat.lt_or_ge (k + 1) (gt (sink (yR key) (k + 1) (insT (yR key) k (List.range n))) i) with hlt | hge
    · exfalso
      have hi2 : i < (sink (yR key) (k + 1) (insT (yR key) k (List.range n))).length := by rw [XS, hlen]; omega
      have hm := (g1.trans h1).mem_iff.1 (yE hi2);have hmn := List.mem_range.1 hm
      have e1 : gt (sink (yR key) (k + 1) (insT (yR key) k (List.range n))) (gt (sink (yR key) (k + 1) (insT (yR key) k (List.range n))) i) = gt (sink (yR key) (k + 1) (insT (yR key) k (List.range n))) i := by
        rw [g3 _ hlt, h3 _ (by omega), qk hmn]
      have hnd2 := (g1.trans h1).nodup_iff.2 List.nodup_range;have hj2 : gt (sink (yR key) (k + 1) (insT (yR key) k (List.range n))) i < (sink (yR key) (k + 1) (insT (yR key) k (List.range n))).length := by rw [XS, hlen]; exact hmn
      have := j1 hnd2 hj2 hi2 e1;omega
    · exact hge
def wO (key : Nat → Int) (n : Nat) : List Nat := insT (yR key) (n - 1) (List.range n)
theorem xU (key : Nat → Int) (n : Nat) : (wO key n).Perm (List.range n) := by
  unfold wO;cases n with
  | zero => exact List.Perm.refl _
  | succ n => exact (Xt key (n + 1) n (by omega)).1
theorem UO (key : Nat → Int) (n : Nat) {a b : Nat} (hab : a < b) (hb : b < n) : lexB key (gt (wO key n) a) (gt (wO key n) b) := by
  unfold wO;exact (Xt key n (n - 1) (by omega)).2.1 a b hab (by omega)
theorem xy (key : Nat → Int) (n : Nat) : (wO key n).length = n := by rw [(xU key n).length_eq, List.length_range]
theorem qw (key : Nat → Int) (n : Nat) {i : Nat} (hi : i < n) : gt (wO key n) i < n := by
  have := (xU key n).mem_iff.1 (yE (by rw [xy]; exact hi));exact List.mem_range.1 this
theorem UN (key : Nat → Int) (n : Nat) {i j : Nat} (hi : i < n) (hj : j < n) (h : gt (wO key n) i = gt (wO key n) j) : i = j := by
  have hnd := (xU key n).nodup_iff.2 List.nodup_range;have hi2 : i < (wO key n).length := by rw [xy]; exact hi
  have hj2 : j < (wO key n).length := by rw [xy]; exact hj
  exact j1 hnd hi2 hj2 h
theorem WU (key : Nat → Int) (n : Nat) {i : Nat} (hi : i < n) : ∃ k, k < n ∧ gt (wO key n) k = i := by
  obtain ⟨k, hk, h⟩ := uU ((xU key n).mem_iff.2 (List.mem_range.2 hi));exact ⟨k, by rw [xy] at hk; exact hk, h⟩
end Go.Ti
namespace Go.Ti
open Go.W (gt wX)
abbrev Pr := Int × Int
abbrev Tru := Nat → Pr
def V3 : Tru := fun _ => (0, 0)
def upd (t : Tru) (i : Nat) (p : Pr) : Tru := fun j => if j = i then p else t j
theorem upd_same (t : Tru) (i : Nat) (p : Pr) : upd t i p i = p := by simp [upd]
theorem jm (t : Tru) {i j : Nat} (p : Pr) (h : j ≠ i) : upd t i p j = t j := by simp [upd, h]
def rng (lo hi : Int) : List Int := (List.range (hi - lo + 1).toNat).map fun i : Nat => lo + (i : Int)
theorem vT {lo hi x : Int} : x ∈ rng lo hi ↔ lo ≤ x ∧ x ≤ hi := by
  simp only [rng, List.mem_map, List.mem_range];constructor
  · rintro ⟨i, hi, rfl⟩; omega
  · rintro ⟨h1, h2⟩; exact ⟨(x - lo).toNat, by omega, by omega⟩
def xu (x : Tick) (a : Int) : List Pr := (rng (max a x.door.lo) x.door.hi).map fun b => (a, b)
def yb (x : Tick) : List Pr := (rng x.bought.lo x.bought.hi).flatMap (xu x)
def UA (x : Tick) (p : Pr) : Bool := decide ((x.bought.lo ≤ p.1 ∧ p.1 ≤ x.bought.hi) ∧ (x.door.lo ≤ p.2 ∧ p.2 ≤ x.door.hi) ∧ p.1 ≤ p.2)
theorem ug {x : Tick} {p : Pr} : UA x p = true ↔ (x.bought.lo ≤ p.1 ∧ p.1 ≤ x.bought.hi) ∧ (x.door.lo ≤ p.2 ∧ p.2 ≤ x.door.hi) ∧ p.1 ≤ p.2 := by simp [UA]
theorem qY {x : Tick} {p : Pr} : p ∈ yb x ↔ UA x p = true := by
  obtain ⟨a, b⟩ := p;rw [ug];simp only [yb, xu, List.mem_flatMap, List.mem_map, vT, Prod.mk.injEq];constructor
  · rintro ⟨a', h1, b', h2, rfl, rfl⟩; omega
  · rintro ⟨h1, h2, h3⟩; exact ⟨a, h1, b, by omega, rfl, rfl⟩
def ZP (a b : Int) : Bool := decide (1 - 30 ≤ a - b ∧ a - b ≤ 30 - 1)
theorem WI (a b : Int) : ZP a b = ZP b a := by
  unfold ZP; congr 1; apply propext; omega
def qD (T : Tks) (t : Tru) (o i : Nat) (p : Pr) : Bool := decide ((gt T.l o).hut = (gt T.l i).hut) && ZP (t o).2 p.2
def u5 (T : Tks) (ord : List Nat) (t : Tru) (at_ : Nat) (i : Nat) (p : Pr) : Bool := (List.range at_).all fun j => !qD T t (gt ord j) i p
def truL (T : Tks) (ord : List Nat) : Nat → Tru → Nat → List Tru
  | 0, t, _ => [t]
  | rem + 1, t, at_ => (yb (gt T.l (gt ord at_))).flatMap fun p => if u5 T ord t at_ (gt ord at_) p then truL T ord rem (upd t (gt ord at_) p) (at_ + 1) else []
def ZB (T : Tks) (i : Nat) : Int := (gt T.l i).hut
def ordT (T : Tks) : List Nat := wO (ZB T) T.l.length
def allT (T : Tks) : List Tru := truL T (ordT T) T.l.length V3 0
structure Sol (T : Tks) (x : Tru) : Prop where
  pair : ∀ i, i < T.l.length → UA (gt T.l i) (x i) = true
  apart : ∀ i j, i < T.l.length → j < T.l.length → i ≠ j → (gt T.l i).hut = (gt T.l j).hut → ZP (x i).2 (x j).2 = false
  rest : ∀ i, T.l.length ≤ i → x i = (0, 0)
theorem wT {T : Tks} {t : Tru} {o i : Nat} {p : Pr} : qD T t o i p = false ↔ ((gt T.l o).hut = (gt T.l i).hut → ZP (t o).2 p.2 = false) := by
  unfold qD;by_cases h : (gt T.l o).hut = (gt T.l i).hut <;> simp [h]
theorem Zy {T : Tks} {ord : List Nat} {t : Tru} {at_ i : Nat} {p : Pr} : u5 T ord t at_ i p = true ↔ ∀ j, j < at_ → (gt T.l (gt ord j)).hut = (gt T.l i).hut → ZP (t (gt ord j)).2 p.2 = false := by
  unfold u5;simp only [List.all_eq_true, List.mem_range, Bool.not_eq_true', wT]
theorem K4 (T : Tks) (ord : List Nat) (n : Nat) (hinj : ∀ i j, i < n → j < n → gt ord i = gt ord j → i = j) : ∀ rem t at_ x, at_ + rem = n → (x ∈ truL T ord rem t at_ ↔
    (∀ k, at_ ≤ k → k < n → UA (gt T.l (gt ord k)) (x (gt ord k)) = true ∧ ∀ j, j < k → (gt T.l (gt ord j)).hut = (gt T.l (gt ord k)).hut → ZP (x (gt ord j)).2 (x (gt ord k)).2 = false) ∧
    ∀ i, (∀ k, at_ ≤ k → k < n → gt ord k ≠ i) → x i = t i) := by
  intro rem
  induction rem with
  | zero =>
    intro t at_ x hat;simp only [truL, List.mem_singleton];constructor
    · rintro rfl;exact ⟨fun k h1 h2 => by omega, fun i _ => rfl⟩
    · rintro ⟨_, h⟩;funext i;exact h i fun k h1 h2 => by omega
  | succ rem ih =>
    intro t at_ x hat;simp only [truL, List.mem_flatMap];constructor
    · rintro ⟨p, hp, hx⟩;by_cases hf : u5 T ord t at_ (gt ord at_) p = true
      · rw [if_pos hf] at hx;obtain ⟨h1, h2⟩ := (ih _ _ _ (by omega)).1 hx
        have hown : x (gt ord at_) = p := by
          rw [h2 (gt ord at_) (fun k hk1 hk2 e => by have := hinj _ _ hk2 (by omega) e; omega), upd_same]
        have hold : ∀ j, j < at_ → x (gt ord j) = t (gt ord j) := fun j hj => by
          rw [h2 (gt ord j) (fun k hk1 hk2 e => by have := hinj _ _ hk2 (by omega) e; omega), jm];intro e;have := hinj _ _ (by omega) (by omega) e;omega
        refine ⟨fun k hk1 hk2 => ?_, fun i hi => ?_⟩
        · by_cases e : k = at_
          · subst e;rw [hown];refine ⟨qY.1 hp, fun j hj hh => ?_⟩;rw [hold j hj];exact Zy.1 hf j hj hh
          · exact h1 k (by omega) hk2
        · rw [h2 i (fun k hk1 hk2 => hi k (by omega) hk2), jm];exact fun e => hi at_ (Nat.le_refl _) (by omega) e.symm
      · rw [if_neg hf] at hx; cases hx
    · rintro ⟨h1, h2⟩;obtain ⟨hp, hf⟩ := h1 at_ (Nat.le_refl _) (by omega);have hold : ∀ j, j < at_ → x (gt ord j) = t (gt ord j) := fun j hj => h2 _ (fun k hk1 hk2 e => by have := hinj _ _ hk2 (by omega) e; omega);refine ⟨x (gt ord at_), qY.2 hp, ?_⟩;rw [if_pos (Zy.2 fun j hj hh => by rw [← hold j hj]; exact hf j hj hh)];refine (ih _ _ _ (by omega)).2 ⟨fun k hk1 hk2 => h1 k (by omega) hk2, fun i hi => ?_⟩;by_cases e : i = gt ord at_
      · rw [e, upd_same]
      · rw [jm _ _ e];refine h2 i fun k hk1 hk2 => ?_;by_cases e2 : k = at_
        · subst e2; exact fun e3 => e e3.symm
        · exact hi k (by omega) hk2
theorem zcZ {T : Tks} {ord : List Nat} (hlt : ∀ i, i < T.l.length → gt ord i < T.l.length) (hinj : ∀ i j, i < T.l.length → j < T.l.length → gt ord i = gt ord j → i = j) (honto : ∀ i, i < T.l.length → ∃ k, k < T.l.length ∧ gt ord k = i) {x : Tru} : x ∈ truL T ord T.l.length V3 0 ↔ Sol T x := by
  rw [K4 T ord T.l.length hinj _ _ _ _ (Nat.zero_add _)];constructor
  · rintro ⟨h1, h2⟩;refine ⟨fun i hi => ?_, fun i j hi hj hij hh => ?_, fun i hi => ?_⟩
    · obtain ⟨k, hk, rfl⟩ := honto i hi;exact (h1 k (Nat.zero_le _) hk).1
    · obtain ⟨k, hk, rfl⟩ := honto i hi;obtain ⟨m, hm, rfl⟩ := honto j hj;rcases Nat.lt_trichotomy k m with h | h | h
      · exact (h1 m (Nat.zero_le _) hm).2 k h hh
      · exact absurd (by rw [h]) hij
      · rw [WI]; exact (h1 k (Nat.zero_le _) hk).2 m h hh.symm
    · rw [h2 i fun k _ hk e => by have := hlt k hk; omega]; rfl
  · intro h;refine ⟨fun k _ hk => ⟨h.pair _ (hlt k hk), fun j hj hh => h.apart _ _ (hlt j (by omega)) (hlt k hk) (fun e => by have := hinj _ _ (by omega) hk e; omega) hh⟩, fun i hi => ?_⟩;rcases Nat.lt_or_ge i T.l.length with h1 | h1
    · obtain ⟨k, hk, e⟩ := honto i h1;exact absurd e (hi k (Nat.zero_le _) hk)
    · exact h.rest i h1
theorem XE {T : Tks} {x : Tru} : x ∈ allT T ↔ Sol T x := by
  unfold allT ordT;exact zcZ (fun i hi => qw _ _ hi) (fun i j hi hj => UN _ _ hi hj) (fun i hi => WU _ _ hi)
def befT (t : Tru) (a b : Nat) : Bool := decide ((t a).1 < (t b).1 ∨ ((t a).1 = (t b).1 ∧ a < b))
def WN (t : Tru) (a b : Nat) : Bool := befT t b a && decide ((t a).2 < (t b).2)
def yD (n : Nat) (t : Tru) (a : Nat) : Bool := !(List.range n).any (WN t a)
def vI (is not : Bool) : Int := if is && !not then 2 else if !is && not then 0 else 1
def qV : Nat → Tru → Int
  | 0, _ => 0
  | n + 1, t => max (qV n t) ((t n).2 - (t n).1)
def tksE (T : Tks) (is : Bool) : Int := if tksB T = false then 1 else if is = false then 2 else if (allT T).isEmpty then 10 else 0
end Go.Ti
namespace Go.Proofs.YtejgofaeafphjaaGreatDoor
open Go.W Go.Ti
theorem ze0 : zj Tryz.prog 247 [.int .i64 0] [(0, 1)] := ⟨⟨_, Tryz.zeroValue247, rfl⟩, _, Tryz.underlying247, fun w => by simp [Tryz.sizeOf51]⟩
abbrev zbR := SaF.mk ze0
attribute [instance] zbR
theorem ze2 : zj Tryz.prog 260 [.int .i64 0] [(0, 1)] := ⟨⟨_, Tryz.zeroValue260, rfl⟩, _, Tryz.underlying260, fun w => by simp [Tryz.sizeOf51]⟩
abbrev zbT := SaF.mk ze2
attribute [instance] zbT
def yc (x : Tick) : List Value := [it x.bought.lo, it x.bought.hi, it x.hut, it x.door.lo, it x.door.hi]
def natC (x : Nat) : List Value := [nt x]
theorem yn : ∀ x, (yc x).length = 5 := fun _ => rfl
theorem Jq : ∀ x, (natC x).length = 1 := fun _ => rfl
structure TksR (D : Imm) (T : Tks) (a1 : Option Addr) (n1 : Nat) : Prop where
  tick : SlL D 5 (T.l.map yc) a1 n1
  len : n1 ≤ 1000
theorem TksR.ext {w : World} {D D' : Imm} (hD : DExt w D D') {T : Tks} {a1 : Option Addr} {n1 : Nat} (h : TksR D T a1 n1) : TksR D' T a1 n1 := ⟨h.tick.ext hD, h.len⟩
def jz (e : Int) : List PanicEntry := [{ v := .iface 247 (.agg #[it e]), recovered := false }]
def UV (e : Int) : List PanicEntry := [{ v := .iface 260 (.agg #[it e]), recovered := false }]
theorem xB (n lo hi : Int) (w : World) : z8 Tryz.prog 173 [it n, it lo, it hi] w (.bool (inB n lo hi)) := by
  unfold z8;refine en Tryz.func173 rfl Tryz.ntmps173 zI (g [[1],[5,0,1,2],[5,6,0,1,2]] ?_);refine WL.part 10 rfl (fun g10 => ?_) (fun g10 => ?_)
  · try simp only [zq] at g10
    refine g [[8]] ?_;refine WP.ret1 rfl rfl rfl (RV.tmp rfl) (fun w hI => ⟨zb (by rw [Bool.eq_iff_iff]; simp [inB]; omega), hI.keep⟩)
  try simp only [zq] at g10
  refine g [[8]] ?_;refine WP.ret1 rfl rfl rfl (RV.tmp rfl) (fun w hI => ⟨zb (by rw [Bool.eq_iff_iff]; simp [inB]; omega), hI.keep⟩)
theorem xp (e : Int) (w : World) : z8 Tryz.prog 94 [.bool true, it e] w (.tuple #[]) := by
  unfold z8;refine en Tryz.func94 rfl Tryz.ntmps94 zI (g [[1],[7,0,1]] ?_);refine WP.ret0 rfl rfl rfl  (fun w hI => ⟨rfl, hI.keep⟩)
theorem xo (e : Int) (w : World) : xC Tryz.prog 94 [.bool false, it e] w (jz e) := by
  unfold xC;refine en Tryz.func94 rfl Tryz.ntmps94 zI (g [[1],[6,0,1],[4,1]] ?_);refine WL.no (SO.panic rfl ?_);refine WP.panicBody rfl (fun w hI => ⟨rfl, hI.keep⟩)
theorem xA (v : Value) (w : World) : z8 Tryz.prog 87 [.nilIface, v] w (.tuple #[]) := by
  unfold z8;refine en Tryz.func87 rfl Tryz.ntmps87 zI (g [[2],[2,0,1]] ?_);refine WL.yd (Yd.eqlNilNil UnF.h rfl) rfl (g [[5]] ?_);refine WP.ret0 rfl rfl rfl  (fun w hI => ⟨rfl, hI.keep⟩)
theorem yW (e v0 : Int) (b : Nat) (t : TypeId) (w : World) (hb : w.heap[b]? = some (.cells (List.toArray [it v0]) t (0, 0))) : Calls Tryz.prog 87 (List.toArray [.iface 247 (.agg #[it e]), pt b]) w fun en w' => (en = .returned (.tuple #[]) ∧ Keep [b] w w') ∧ w'.heap[b]? = some (.cells (List.toArray [it e]) t (0, 0)) := by
  refine en Tryz.func87 rfl Tryz.ntmps87 (Inv.one hb) (g [[2],[2,0,1]] ?_);refine WL.yd (Yd.eqlNil UnF.h rfl) rfl (g [[6],[2,0,1]] ?_);refine WL.yd (Yd.assert UnF.h (by intro _ h; cases h) rfl) rfl (g [[3]] ?_);refine WL.so (SO.alloc ZvF.h rfl) rfl (zw fun b4 hb4 => ?_);refine g [[6],[8,5,4,0,1],[7,4,1]] ?_;refine WP.ret0 rfl rfl rfl  (fun w hI => ⟨⟨rfl, hI.keep⟩, hI.own _ _ (List.mem_of_getElem? (i := 1) rfl)⟩)
theorem vu (n lo hi : Int) (w : World) : z8 Tryz.prog 182 [it n, it lo, it hi] w (.bool (inB n lo hi)) := by
  unfold z8;refine en Tryz.func182 rfl Tryz.ntmps182 zI (g [[1],[5,0,1,2],[5,6,0,1,2]] ?_);refine WL.part 10 rfl (fun g10 => ?_) (fun g10 => ?_)
  · try simp only [zq] at g10
    refine g [[8]] ?_;refine WP.ret1 rfl rfl rfl (RV.tmp rfl) (fun w hI => ⟨zb (by rw [Bool.eq_iff_iff]; simp [inB]; omega), hI.keep⟩)
  try simp only [zq] at g10
  refine g [[8]] ?_;refine WP.ret1 rfl rfl rfl (RV.tmp rfl) (fun w hI => ⟨zb (by rw [Bool.eq_iff_iff]; simp [inB]; omega), hI.keep⟩)
theorem uc (e : Int) (w : World) : z8 Tryz.prog 181 [.bool true, it e] w (.tuple #[]) := by
  unfold z8;refine en Tryz.func181 rfl Tryz.ntmps181 zI (g [[1],[7,0,1]] ?_);refine WP.ret0 rfl rfl rfl  (fun w hI => ⟨rfl, hI.keep⟩)
theorem xQ (e : Int) (w : World) : xC Tryz.prog 181 [.bool false, it e] w (UV e) := by
  unfold xC;refine en Tryz.func181 rfl Tryz.ntmps181 zI (g [[1],[6,0,1],[4,1]] ?_);refine WL.no (SO.panic rfl ?_);refine WP.panicBody rfl (fun w hI => ⟨rfl, hI.keep⟩)
theorem vl (v : Value) (w : World) : z8 Tryz.prog 96 [.nilIface, v] w (.tuple #[]) := by
  unfold z8;refine en Tryz.func96 rfl Tryz.ntmps96 zI (g [[2],[2,0,1]] ?_);refine WL.yd (Yd.eqlNilNil UnF.h rfl) rfl (g [[5]] ?_);refine WP.ret0 rfl rfl rfl  (fun w hI => ⟨rfl, hI.keep⟩)
theorem vm (e v0 : Int) (b : Nat) (t : TypeId) (w : World) (hb : w.heap[b]? = some (.cells (List.toArray [it v0]) t (0, 0))) : Calls Tryz.prog 96 (List.toArray [.iface 260 (.agg #[it e]), pt b]) w fun en w' => (en = .returned (.tuple #[]) ∧ Keep [b] w w') ∧ w'.heap[b]? = some (.cells (List.toArray [it e]) t (0, 0)) := by
  refine en Tryz.func96 rfl Tryz.ntmps96 (Inv.one hb) (g [[2],[2,0,1]] ?_);refine WL.yd (Yd.eqlNil UnF.h rfl) rfl (g [[6],[2,0,1]] ?_);refine WL.yd (Yd.assert UnF.h (by intro _ h; cases h) rfl) rfl (g [[3]] ?_);refine WL.so (SO.alloc ZvF.h rfl) rfl (zw fun b4 hb4 => ?_);refine g [[6],[8,5,4,0,1],[7,4,1]] ?_;refine WP.ret0 rfl rfl rfl  (fun w hI => ⟨⟨rfl, hI.keep⟩, hI.own _ _ (List.mem_of_getElem? (i := 1) rfl)⟩)
theorem zao (b : Nat) (w : World) : Idle Tryz.prog 116 [pt b] w := by
  refine callsD_of_wpS Tryz.func116 rfl fun c₀ cs hu => ?_;apply wpS_region;simp [wpOpsS, go_sem, recoverD, hu, Tryz.ntmps116];refine (xA (pt b) w).mono ?_;rintro e w' ⟨rfl, hk⟩;cases c₀
  simp only at hu;subst hu;simp [bodyPostS, results, Tryz.results116, hk]
theorem kf (b : Nat) (e v0 : Int) (t : TypeId) (w : World) (hb : w.heap[b]? = some (.cells (List.toArray [it v0]) t (0, 0))) : uw Tryz.prog 116 [pt b] (.iface 247 (.agg #[it e])) b (.cells (List.toArray [it e]) t (0, 0)) w := by
  refine callsD_of_wpS Tryz.func116 rfl fun c₀ cs hu => ?_;apply wpS_region;simp [wpOpsS, go_sem, recoverD, hu, Tryz.ntmps116];refine (yW e v0 b t w hb).mono ?_;rintro en w' ⟨⟨rfl, hk⟩, hb'⟩;cases c₀
  simp only at hu;subst hu;simp [bodyPostS, results, Tryz.results116, hk, hb']
theorem zar (b : Nat) (w : World) : Idle Tryz.prog 241 [pt b] w := by
  refine callsD_of_wpS Tryz.func241 rfl fun c₀ cs hu => ?_;apply wpS_region;simp [wpOpsS, go_sem, recoverD, hu, Tryz.ntmps241];refine (xA (pt b) w).mono ?_;rintro e w' ⟨rfl, hk⟩;cases c₀
  simp only at hu;subst hu;simp [bodyPostS, results, Tryz.results241, hk]
theorem Xd (b : Nat) (e v0 : Int) (t : TypeId) (w : World) (hb : w.heap[b]? = some (.cells (List.toArray [it v0]) t (0, 0))) : uw Tryz.prog 241 [pt b] (.iface 247 (.agg #[it e])) b (.cells (List.toArray [it e]) t (0, 0)) w := by
  refine callsD_of_wpS Tryz.func241 rfl fun c₀ cs hu => ?_;apply wpS_region;simp [wpOpsS, go_sem, recoverD, hu, Tryz.ntmps241];refine (yW e v0 b t w hb).mono ?_;rintro en w' ⟨⟨rfl, hk⟩, hb'⟩;cases c₀
  simp only at hu;subst hu;simp [bodyPostS, results, Tryz.results241, hk, hb']
theorem YC (b : Nat) (w : World) : Idle Tryz.prog 351 [pt b] w := by
  refine callsD_of_wpS Tryz.func351 rfl fun c₀ cs hu => ?_;apply wpS_region;simp [wpOpsS, go_sem, recoverD, hu, Tryz.ntmps351];refine (xA (pt b) w).mono ?_;rintro e w' ⟨rfl, hk⟩;cases c₀
  simp only at hu;subst hu;simp [bodyPostS, results, Tryz.results351, hk]
theorem xO (b : Nat) (e v0 : Int) (t : TypeId) (w : World) (hb : w.heap[b]? = some (.cells (List.toArray [it v0]) t (0, 0))) : uw Tryz.prog 351 [pt b] (.iface 247 (.agg #[it e])) b (.cells (List.toArray [it e]) t (0, 0)) w := by
  refine callsD_of_wpS Tryz.func351 rfl fun c₀ cs hu => ?_;apply wpS_region;simp [wpOpsS, go_sem, recoverD, hu, Tryz.ntmps351];refine (yW e v0 b t w hb).mono ?_;rintro en w' ⟨⟨rfl, hk⟩, hb'⟩;cases c₀
  simp only at hu;subst hu;simp [bodyPostS, results, Tryz.results351, hk, hb']
theorem zaq (b : Nat) (w : World) : Idle Tryz.prog 145 [pt b] w := by
  refine callsD_of_wpS Tryz.func145 rfl fun c₀ cs hu => ?_;apply wpS_region;simp [wpOpsS, go_sem, recoverD, hu, Tryz.ntmps145];refine (vl (pt b) w).mono ?_;rintro e w' ⟨rfl, hk⟩;cases c₀
  simp only at hu;subst hu;simp [bodyPostS, results, Tryz.results145, hk]
theorem QJ (b : Nat) (e v0 : Int) (t : TypeId) (w : World) (hb : w.heap[b]? = some (.cells (List.toArray [it v0]) t (0, 0))) : uw Tryz.prog 145 [pt b] (.iface 260 (.agg #[it e])) b (.cells (List.toArray [it e]) t (0, 0)) w := by
  refine callsD_of_wpS Tryz.func145 rfl fun c₀ cs hu => ?_;apply wpS_region;simp [wpOpsS, go_sem, recoverD, hu, Tryz.ntmps145];refine (vm e v0 b t w hb).mono ?_;rintro en w' ⟨⟨rfl, hk⟩, hb'⟩;cases c₀
  simp only at hu;subst hu;simp [bodyPostS, results, Tryz.results145, hk, hb']
theorem VX (b : Nat) (w : World) : V7 Tryz.prog 95 [pt b] w := by
  refine yI Tryz.func95 rfl fun c₀ cs hu => ?_;apply wpS_region;simp [wpOpsS, go_sem, recoverD, hu, Tryz.ntmps95];refine (vl (pt b) w).mono ?_;rintro e w' ⟨rfl, hk⟩;cases c₀
  simp only at hu;subst hu;simp [bodyPostS, results, Tryz.results95, hk]
theorem Vv (b : Nat) (e v0 : Int) (t : TypeId) (w : World) (hb : w.heap[b]? = some (.cells (List.toArray [it v0]) t (0, 0))) : uw Tryz.prog 95 [pt b] (.iface 260 (.agg #[it e])) b (.cells (List.toArray [it e]) t (0, 0)) w := by
  refine callsD_of_wpS Tryz.func95 rfl fun c₀ cs hu => ?_;apply wpS_region;simp [wpOpsS, go_sem, recoverD, hu, Tryz.ntmps95];refine (vm e v0 b t w hb).mono ?_;rintro en w' ⟨⟨rfl, hk⟩, hb'⟩;cases c₀
  simp only at hu;subst hu;simp [bodyPostS, results, Tryz.results95, hk, hb']
theorem Xp (b : Nat) (w : World) : V7 Tryz.prog 101 [pt b] w := by
  refine yI Tryz.func101 rfl fun c₀ cs hu => ?_;apply wpS_region;simp [wpOpsS, go_sem, recoverD, hu, Tryz.ntmps101];refine (vl (pt b) w).mono ?_;rintro e w' ⟨rfl, hk⟩;cases c₀
  simp only at hu;subst hu;simp [bodyPostS, results, Tryz.results101, hk]
theorem Xc (b : Nat) (e v0 : Int) (t : TypeId) (w : World) (hb : w.heap[b]? = some (.cells (List.toArray [it v0]) t (0, 0))) : uw Tryz.prog 101 [pt b] (.iface 260 (.agg #[it e])) b (.cells (List.toArray [it e]) t (0, 0)) w := by
  refine callsD_of_wpS Tryz.func101 rfl fun c₀ cs hu => ?_;apply wpS_region;simp [wpOpsS, go_sem, recoverD, hu, Tryz.ntmps101];refine (vm e v0 b t w hb).mono ?_;rintro en w' ⟨⟨rfl, hk⟩, hb'⟩;cases c₀
  simp only at hu;subst hu;simp [bodyPostS, results, Tryz.results101, hk, hb']
def datN (l : List Nat) (rest : List Value) : Obj := .cells (List.toArray (l.map nt ++ rest)) 3 (0, 0)
theorem W3 {l : List Nat} {i j : Nat} (rest : List Value) (hi : i < l.length) (hj : j < l.length) : splice (splice (l.map nt ++ rest) (0 + i * 1) [nt (gt l j)]) (0 + j * 1) [nt (gt l i)] = (swp l i j).map nt ++ rest := by
  unfold swp;rw [vi _ _ _ _ hi, vi _ _ _ _ (by simpa using hj)]
theorem UT {l : List Nat} (rest : List Value) {i j x : Nat} (hi : i < l.length) (hj : j < l.length) : 0 + j * 1 + 1 ≤ (splice (l.map nt ++ rest) (0 + i * 1) [nt x]).length := by
  rw [vi _ _ _ _ hi]; exact qQ _ _ (by rw [List.length_set]; exact hj)
theorem UL {less : Nat → Nat → Bool} {j : Nat} {l : List Nat} (hj : 0 < j) (h : less (gt l j) (gt l (j - 1)) = true) : sink less (j - 1) (swp l j (j - 1)) = sink less j l := by
  obtain ⟨k, rfl⟩ : ∃ k, j = k + 1 := ⟨j - 1, by omega⟩;rw [Nat.add_sub_cancel] at h ⊢;rw [sink, if_pos h];rfl
theorem UM {less : Nat → Nat → Bool} {j : Nat} {l : List Nat} (hj : 0 < j) (h : less (gt l j) (gt l (j - 1)) = false) : sink less j l = l := by
  obtain ⟨k, rfl⟩ : ∃ k, j = k + 1 := ⟨j - 1, by omega⟩;rw [Nat.add_sub_cancel] at h;rw [sink, if_neg (by rw [h]; simp)]
def InN (n : Nat) (l : List Nat) : Prop := l.length = n ∧ ∀ i, i < n → gt l i < n
theorem InN.swp {n : Nat} {l : List Nat} (h : InN n l) {i j : Nat} (hi : i < n) (hj : j < n) : InN n (swp l i j) := by
  refine ⟨by simp [Go.Ti.swp, h.1], fun k hk => ?_⟩;rw [Ks (by rw [h.1]; exact hi) (by rw [h.1]; exact hj)];split
  · exact h.2 _ hi
  split
  · exact h.2 _ hj
  exact h.2 _ hk
theorem InN.sink {n : Nat} (less : Nat → Nat → Bool) : ∀ j (l : List Nat), InN n l → j < n → InN n (sink less j l) := by
  intro j
  induction j with
  | zero => intro l h _; exact h
  | succ j ih =>
    intro l h hj;unfold Go.Ti.sink;split
    · exact ih _ (h.swp hj (by omega)) (by omega)
    exact h
theorem InN.ins {n : Nat} (less : Nat → Nat → Bool) : ∀ k (l : List Nat), InN n l → k < n → InN n (insT less k l) := by
  intro k
  induction k with
  | zero => intro l h _; exact h
  | succ k ih => intro l h hk; exact InN.sink less _ _ (ih l h (by omega)) hk
theorem zhp (less : Nat → Nat → Bool) (l : List Nat) (rest : List Value) (bd cap n0 : Nat) (D : Imm) (w : World) (hok : InN n0 l) (hl : n0 < 20) (fi : FuncId) (cp : List Value) (hfi : ∀ args w, (callFunc fi args).run Tryz.prog w = .ok (.enter fi args) w) (cr : Nat → Nat → Int) (hF : ∀ w', Holds D w' → ∀ i j, i < n0 → j < n0 → z8 Tryz.prog fi (nt i :: nt j :: cp) w' (it (cr i j))) (hcr : ∀ i j, i < n0 → j < n0 → decide (cr i j < 0) = less i j) (hI0 : Inv D [(bd, datN l rest)] [bd] w w) : wP Tryz.prog 276 [.slice (some ⟨bd, 0, none⟩) n0 cap, nt 0, nt n0, .func (.func fi) #[] cp.toArray] w D [bd] (fun v D' hpc' => v = .tuple #[] ∧ D = D' ∧ hpc' = [(bd, datN (insT less (n0 - 1) l) rest)]) := by
  unfold wP;refine en Tryz.func276 rfl Tryz.ntmps276 hI0 (g [[1],[2,0,1,2,3]] ?_);refine WL.yd (Yd.addN rfl rfl (by (try dsimp only); omega)) rfl (g [[4]] ?_);refine WC.loop (fun k : Nat => [(0, .slice (some ⟨bd, 0, none⟩) n0 cap), (1, nt 0), (2, nt n0), (3, .func (.func fi) #[] cp.toArray), (8, nt (k + 1))]) (fun k => [(bd, datN (insT less k l) rest)]) (fun _ => D) (fun k => k ≤ n0 - 1) (fun k => n0 - k) 0 (by omega) (fun a w h => y4 h ⟨rfl, rfl, rfl, rfl, rfl, trivial⟩) ?_;intro k hk;refine g [[2],[6,0,1,2,3,8]] ?_;refine WC.cond rfl (fun c14 => ?_) (fun c14 => ?_)
  · try simp only [zq] at c14
    have hib : k + 1 < n0 := by omega
    have hok1 := InN.ins less k l hok (by omega);refine g [[5],[6,0,1,2,3,8]] ?_;refine WC.loop (fun y : Nat × List Nat => [(0, .slice (some ⟨bd, 0, none⟩) n0 cap), (1, nt 0), (2, nt n0), (3, .func (.func fi) #[] cp.toArray), (8, nt (k + 1)), (9, nt y.1)]) (fun y => [(bd, datN y.2 rest)]) (fun _ => D) (fun y => sink less y.1 y.2 = insT less (k + 1) l ∧ InN n0 y.2 ∧ y.1 < n0) (fun y => y.1) (⟨k + 1, insT less k l⟩ : Nat × List Nat) ⟨rfl, hok1, hib⟩ (fun a w h => y4 h ⟨rfl, rfl, rfl, rfl, rfl, rfl, trivial⟩) ?_;rintro ⟨j, l3⟩ ⟨hw3, hok3, hj3⟩;dsimp only at hw3 hok3 hj3;refine g [[2],[0,0,1,2,3,8,9],[3014],[4]] ?_;refine WQ.part 21 rfl (fun g21 => ?_) (fun g21 => ?_)
    · try simp only [zq] at g21
      have hja : 0 < j := by omega
      have hl3 := hok3.1;have hp1 : gt l3 j < n0 := hok3.2 j (by omega);have hp2 : gt l3 (j - 1) < n0 := hok3.2 (j - 1) (by omega);have hcc := hcr _ _ hp1 hp2;refine g [[3]] ?_;refine WQ.qg rfl rfl (Yd.qt (Yd.indexS UnF.h SzF.h rfl rfl (by (try dsimp only); omega) (by (try dsimp only); omega) (rfl))) rfl ?_;refine WQ.qg rfl rfl (Yd.qt (Yd.l1 rfl (vD (k := 0) rfl (by (try dsimp only); omega)))) rfl (g [[2]] ?_);refine WQ.qg rfl rfl (Yd.qt (Yd.subN rfl rfl (by (try dsimp only); omega) (by (try dsimp only); omega))) rfl ?_;refine WQ.qg rfl rfl (Yd.qt (Yd.indexS UnF.h SzF.h rfl rfl (by (try dsimp only); omega) (by (try dsimp only); omega) (rfl))) rfl ?_;refine WQ.qg rfl rfl (Yd.qt (Yd.l1 rfl (vD (k := 0) rfl (by (try dsimp only); omega)))) rfl (g [[1]] ?_);refine WL.sog rfl (SO.call (Enters.val hfi rfl rfl) (fun w hI => hF w hI.imm _ _ hp1 hp2)) rfl (zs (g [[4]] ?_));refine WC.cond rfl (fun c34 => ?_) (fun c34 => ?_)
      · try simp only [zq] at c34
        have hls : less (gt l3 j) (gt l3 (j - 1)) = true := by rw [← hcc]; exact decide_eq_true c34
        have hst := UL hja hls;refine g [[4],[0,0,1,2,3,8,9]] ?_;refine WC.drawH [] zk (fun _ hI => hI.drop 99) (g [[1000],[1001],[1002],[1003]] ?_);refine WH.yd (i := 4) zk zX rfl (Yd.subN rfl rfl (by (try dsimp only); omega) (by (try dsimp only); omega)) rfl (g [[1005],[1006]] ?_);refine WH.yd (i := 7) zk zX rfl (Yd.subN rfl rfl (by (try dsimp only); omega) (by (try dsimp only); omega)) rfl ?_;refine WH.yd (i := 8) zk zX rfl (Yd.indexS UnF.h SzF.h rfl rfl (by (try dsimp only); omega) (by (try dsimp only); omega) (rfl)) rfl (g [[1010],[1011]] ?_);refine WH.yd (i := 12) zk zX rfl (Yd.indexS UnF.h SzF.h rfl rfl (by (try dsimp only); omega) (by (try dsimp only); omega) (rfl)) rfl ?_;refine WH.two (i := 9) (j := 13) zk ?_ ?_
        · refine WHo.yd rfl (Yd.l1 rfl (vD (k := 0) rfl (by (try dsimp only); omega))) rfl ?_;refine WH.one (i := 13) zk (WHo.yd rfl (Yd.l1 rfl (vD (k := 0) rfl (by (try dsimp only); omega))) rfl ?_);refine WH.yd (i := 14) zk zX rfl (Yd.indexS UnF.h SzF.h rfl rfl (by (try dsimp only); omega) (by (try dsimp only); omega) (rfl)) rfl ?_;refine WH.one (i := 15) zk (WHo.so rfl (SO.store 0 rfl SzF.h rfl rfl rfl rfl (qQ _ _ (by (try dsimp only); omega)) (za rfl)) rfl ?_);rintro _ _ _ ⟨rfl, rfl, rfl⟩;refine ⟨(fun _ hI => hI.drop 99), ?_⟩;refine WH.yd (i := 16) zk zX rfl (Yd.indexS UnF.h SzF.h rfl rfl (by (try dsimp only); omega) (by (try dsimp only); omega) (rfl)) rfl ?_;refine WH.one (i := 17) zk (WHo.so rfl (SO.store 0 rfl SzF.h rfl rfl rfl rfl (UT rest (by (try dsimp only); omega) (by (try dsimp only); omega)) (za rfl)) rfl ?_);rintro _ _ _ ⟨rfl, rfl, rfl⟩;refine ⟨(fun _ hI => hI.drop 99), ?_⟩;refine WH.nil zk (g [[2],[2,0,1,2,3,8,9]] ?_);refine WL.yd (Yd.subN rfl rfl (by (try dsimp only); omega) (by (try dsimp only); omega)) rfl (g [[2]] ?_);refine WP.again (⟨j - 1, swp l3 j (j - 1)⟩ : Nat × List Nat) ⟨by rw [hst]; exact hw3, hok3.swp (by omega) (by omega), by simp only; omega⟩ (by simp only; omega) (fun aa ww h => ?_)
          show At _ [(0, .slice (some ⟨bd, 0, none⟩) n0 cap), (1, nt 0), (2, nt n0), (3, .func (.func fi) #[] cp.toArray), (8, nt (k + 1)), (9, nt (j - 1))] D [(bd, .cells (List.toArray ((swp l3 j (j - 1)).map nt ++ rest)) 3 (0, 0))] aa ww;rw [← W3 rest (by omega) (by omega)];exact y4 h ⟨rfl, rfl, rfl, rfl, rfl, rfl, trivial⟩
        refine WHo.yd rfl (Yd.l1 rfl (vD (k := 0) rfl (by (try dsimp only); omega))) rfl ?_;refine WH.one (i := 9) zk (WHo.yd rfl (Yd.l1 rfl (vD (k := 0) rfl (by (try dsimp only); omega))) rfl ?_);refine WH.yd (i := 14) zk zX rfl (Yd.indexS UnF.h SzF.h rfl rfl (by (try dsimp only); omega) (by (try dsimp only); omega) (rfl)) rfl ?_;refine WH.one (i := 15) zk (WHo.so rfl (SO.store 0 rfl SzF.h rfl rfl rfl rfl (qQ _ _ (by (try dsimp only); omega)) (za rfl)) rfl ?_);rintro _ _ _ ⟨rfl, rfl, rfl⟩;refine ⟨(fun _ hI => hI.drop 99), ?_⟩;refine WH.yd (i := 16) zk zX rfl (Yd.indexS UnF.h SzF.h rfl rfl (by (try dsimp only); omega) (by (try dsimp only); omega) (rfl)) rfl ?_;refine WH.one (i := 17) zk (WHo.so rfl (SO.store 0 rfl SzF.h rfl rfl rfl rfl (UT rest (by (try dsimp only); omega) (by (try dsimp only); omega)) (za rfl)) rfl ?_);rintro _ _ _ ⟨rfl, rfl, rfl⟩;refine ⟨(fun _ hI => hI.drop 99), ?_⟩;refine WH.nil zk (g [[2],[2,0,1,2,3,8,9]] ?_);refine WL.yd (Yd.subN rfl rfl (by (try dsimp only); omega) (by (try dsimp only); omega)) rfl (g [[2]] ?_);refine WP.again (⟨j - 1, swp l3 j (j - 1)⟩ : Nat × List Nat) ⟨by rw [hst]; exact hw3, hok3.swp (by omega) (by omega), by simp only; omega⟩ (by simp only; omega) (fun aa ww h => ?_)
        show At _ [(0, .slice (some ⟨bd, 0, none⟩) n0 cap), (1, nt 0), (2, nt n0), (3, .func (.func fi) #[] cp.toArray), (8, nt (k + 1)), (9, nt (j - 1))] D [(bd, .cells (List.toArray ((swp l3 j (j - 1)).map nt ++ rest)) 3 (0, 0))] aa ww;rw [← W3 rest (by omega) (by omega)];exact y4 h ⟨rfl, rfl, rfl, rfl, rfl, rfl, trivial⟩
      try simp only [zq] at c34
      have hls : less (gt l3 j) (gt l3 (j - 1)) = false := by rw [← hcc]; exact decide_eq_false (Int.not_lt.2 c34)
      obtain rfl : l3 = insT less (k + 1) l := (UM hja hls).symm.trans hw3;refine g [[6],[2,0,1,2,3,8]] ?_;refine WL.yd (Yd.addN rfl rfl (by (try dsimp only); omega)) rfl (g [[2]] ?_);exact WP.again (k + 1) (by omega) (by omega) (fun aa ww h => y4 h ⟨rfl, rfl, rfl, rfl, rfl, trivial⟩)
    try simp only [zq] at g21
    obtain rfl : j = 0 := by omega
    obtain rfl : l3 = insT less (k + 1) l := hw3;refine g [[23],[2,0,1,2,3,8]] ?_;refine WL.yd (Yd.addN rfl rfl (by (try dsimp only); omega)) rfl (g [[2]] ?_);exact WP.again (k + 1) (by omega) (by omega) (fun aa ww h => y4 h ⟨rfl, rfl, rfl, rfl, rfl, trivial⟩)
  try simp only [zq] at c14
  have hib : ¬ k + 1 < n0 := by omega
  obtain rfl : k = n0 - 1 := by omega
  refine g [[4]] ?_;refine WP.ret0 rfl rfl rfl  (fun w1 hI => ⟨_, D, _, rfl, DExt.refl _ _, hI, fun _ h => h, rfl, rfl, rfl⟩)
theorem zd8 (less : Nat → Nat → Bool) (l : List Nat) (rest : List Value) (bd cap n0 : Nat) (D : Imm) (w : World) (hok : InN n0 l) (hl : n0 < 20) (fi : FuncId) (cp : List Value) (hfi : ∀ args w, (callFunc fi args).run Tryz.prog w = .ok (.enter fi args) w) (cr : Nat → Nat → Int) (hF : ∀ w', Holds D w' → ∀ i j, i < n0 → j < n0 → z8 Tryz.prog fi (nt i :: nt j :: cp) w' (it (cr i j))) (hcr : ∀ i j, i < n0 → j < n0 → decide (cr i j < 0) = less i j) (hI0 : Inv D [(bd, datN l rest)] [bd] w w) : wP Tryz.prog 239 [.slice (some ⟨bd, 0, none⟩) n0 cap, nt n0, .func (.func fi) #[] cp.toArray] w D [bd] (fun v D' hpc' => v = .tuple #[] ∧ D = D' ∧ hpc' = [(bd, datN (insT less (n0 - 1) l) rest)]) := by
  unfold wP;refine en Tryz.func239 rfl Tryz.ntmps239 hI0 (g [[1],[5,0,1,2],[8,6,0,1,2]] ?_);refine WC.loop (fun _ : Unit => [(0, .slice (some ⟨bd, 0, none⟩) n0 cap), (1, nt n0), (2, .func (.func fi) #[] cp.toArray), (6, nt 20), (7, nt 0), (8, nt 20)]) (fun _ => [(bd, datN l rest)]) (fun _ => D) (fun _ => True) (fun _ => 0) () trivial (fun a w h => y4 h ⟨rfl, rfl, rfl, rfl, rfl, rfl, trivial⟩) ?_;rintro ⟨⟩ -;refine g [[2],[6,0,1,2,6,7,8]] ?_;refine WC.cond rfl (fun c13 => ?_) (fun c13 => ?_)
  · try simp only [zq] at c13
    omega
  try simp only [zq] at c13
  refine g [[6],[5,0,1,2,6,7,8]] ?_;refine WL.so (SO.alters (own := []) (hpc := [_]) (S1 := [bd]) (fun _ h => h) (fun h => h) (fun _ h => h) (fun _ h => h) (Enters.func CaF.h rfl) (fun w1 hI => zhp less l rest bd cap n0 D w1 hok hl fi cp hfi cr hF hcr hI)) rfl ?_;rintro _ _ _ ⟨_, _, ⟨rfl, rfl, rfl⟩, rfl⟩;refine g [[3]] ?_;refine WC.loop (fun _ : Unit => [(0, .slice (some ⟨bd, 0, none⟩) n0 cap), (1, nt n0), (2, .func (.func fi) #[] cp.toArray), (6, nt 20)]) (fun _ => [(bd, datN (insT less (n0 - 1) l) rest)]) (fun _ => D) (fun _ => True) (fun _ => 0) () trivial (fun a w h => y4 h ⟨rfl, rfl, rfl, rfl, trivial⟩) ?_;rintro ⟨⟩ -;refine g [[2],[6,0,1,2,6]] ?_;refine WC.cond rfl (fun c30 => ?_) (fun c30 => ?_)
  · try simp only [zq] at c30
    omega
  try simp only [zq] at c30
  refine g [[4]] ?_;refine WP.ret0 rfl rfl rfl  (fun w1 hI => ⟨_, D, _, rfl, DExt.refl _ _, hI, fun _ h => h, rfl, rfl, rfl⟩)
theorem zd1 (less : Nat → Nat → Bool) (l : List Nat) (rest : List Value) (bd cap n0 : Nat) (D : Imm) (w : World) (hok : InN n0 l) (hl : n0 < 20) (fi : FuncId) (cp : List Value) (hfi : ∀ args w, (callFunc fi args).run Tryz.prog w = .ok (.enter fi args) w) (cr : Nat → Nat → Int) (hF : ∀ w', Holds D w' → ∀ i j, i < n0 → j < n0 → z8 Tryz.prog fi (nt i :: nt j :: cp) w' (it (cr i j))) (hcr : ∀ i j, i < n0 → j < n0 → decide (cr i j < 0) = less i j) (hI0 : Inv D [(bd, datN l rest)] [bd] w w) : wP Tryz.prog 175 [.slice (some ⟨bd, 0, none⟩) n0 cap, .func (.func fi) #[] cp.toArray] w D [bd] (fun v D' hpc' => v = .tuple #[] ∧ D = D' ∧ hpc' = [(bd, datN (insT less (n0 - 1) l) rest)]) := by
  unfold wP;refine en Tryz.func175 rfl Tryz.ntmps175 hI0 (g [[5,0,1]] ?_);refine WL.so (SO.alters (own := []) (hpc := [_]) (S1 := [bd]) (fun _ h => h) (fun h => h) (fun _ h => h) (fun _ h => h) (Enters.func CaF.h rfl) (fun w1 hI => zd8 less l rest bd cap n0 D w1 hok hl fi cp hfi cr hF hcr hI)) rfl ?_;rintro _ _ _ ⟨_, _, ⟨rfl, rfl, rfl⟩, rfl⟩;refine g [[1]] ?_;refine WP.ret0 rfl rfl rfl  (fun w1 hI => ⟨_, D, _, rfl, DExt.refl _ _, hI, fun _ h => h, rfl, rfl, rfl⟩)
theorem zho (a3 : Option Addr) (c3 : Nat) (cv : Value) (w : World) : z8 Tryz.prog 276 [.slice a3 0 c3, nt 0, nt 0, cv] w (.tuple #[]) := by
  unfold z8;refine en Tryz.func276 rfl Tryz.ntmps276 zI (g [[1],[2,0,1,2,3]] ?_);refine WL.yd (Yd.addN (i := 0) (j := 1) rfl rfl (by omega)) rfl (g [[4]] ?_);refine WC.loopF (fun _ : Unit => [(0, .slice a3 0 c3), (1, nt 0), (2, nt 0), (3, cv), (8, nt 1)]) (fun _ => True) (fun _ => 0) () trivial ⟨rfl, rfl, rfl, rfl, rfl, trivial⟩ ?_;rintro ⟨⟩ -;refine g [[2],[6,0,1,2,3,8]] ?_;refine WC.cond rfl (fun c14 => ?_) (fun c14 => ?_)
  · try simp only [zq] at c14
    omega
  try simp only [zq] at c14
  refine g [[4]] ?_;refine WP.ret0 rfl rfl rfl  (fun w hI => ⟨rfl, hI.keep⟩)
theorem zd7 (a3 : Option Addr) (c3 : Nat) (cv : Value) (w : World) : z8 Tryz.prog 239 [.slice a3 0 c3, nt 0, cv] w (.tuple #[]) := by
  unfold z8;refine en Tryz.func239 rfl Tryz.ntmps239 zI (g [[1],[5,0,1,2],[8,6,0,1,2]] ?_);refine WC.loopF (fun _ : Unit => [(0, .slice a3 0 c3), (1, nt 0), (2, cv), (6, nt 20), (7, nt 0), (8, nt 20)]) (fun _ => True) (fun _ => 0) () trivial ⟨rfl, rfl, rfl, rfl, rfl, rfl, trivial⟩ ?_;rintro ⟨⟩ -;refine g [[2],[6,0,1,2,6,7,8]] ?_;refine WC.cond rfl (fun c13 => ?_) (fun c13 => ?_)
  · try simp only [zq] at c13
    omega
  try simp only [zq] at c13
  refine g [[6],[5,0,1,2,6,7,8]] ?_;refine WL.cl rfl (fun w hI => zho _ _ _ _) (g [[3]] ?_);refine WC.loopF (fun _ : Unit => [(0, .slice a3 0 c3), (1, nt 0), (2, cv), (6, nt 20)]) (fun _ => True) (fun _ => 0) () trivial ⟨rfl, rfl, rfl, rfl, trivial⟩ ?_;rintro ⟨⟩ -;refine g [[2],[6,0,1,2,6]] ?_;refine WC.cond rfl (fun c30 => ?_) (fun c30 => ?_)
  · try simp only [zq] at c30
    omega
  try simp only [zq] at c30
  refine g [[4]] ?_;refine WP.ret0 rfl rfl rfl  (fun w hI => ⟨rfl, hI.keep⟩)
theorem zd0 (a3 : Option Addr) (c3 : Nat) (cv : Value) (w : World) : z8 Tryz.prog 175 [.slice a3 0 c3, cv] w (.tuple #[]) := by
  unfold z8;refine en Tryz.func175 rfl Tryz.ntmps175 zI (g [[5,0,1]] ?_);refine WL.cl rfl (fun w hI => zd7 _ _ _ _) (g [[1]] ?_);refine WP.ret0 rfl rfl rfl  (fun w hI => ⟨rfl, hI.keep⟩)
end Go.Proofs.YtejgofaeafphjaaGreatDoor
