import Derived.Test.YtejgofaeafphjaaGreatDoorXG0
import Derived.Test.YtejgofaeafphjaaGreatDoorRows
import Derived.Test.YtejgofaeafphjaaGreatDoorXG2
set_option linter.all false
set_option maxRecDepth 100000
set_option maxHeartbeats 4000000
attribute [local irreducible] Go.W.WL Go.W.WLF Go.W.WC Go.W.WCF Go.W.WP Go.W.WA Go.W.WQ Go.W.WH Go.W.WHo Go.W.WCn Go.W.Yd Go.W.Qt Go.W.SO Go.Code.wp Go.Code.wpIn
namespace Go.Ti
open Go.W (gt wX)
structure Sp where
  lo : Int
  hi : Int
deriving DecidableEq, Inhabited
structure Tick where
  bought : Sp
  hut : Int
  door : Sp
deriving DecidableEq, Inhabited
structure Tks where
  huts : Int
  l : List Tick
structure Ent where
  ticket : Int
  kind : Int
  pence : Int
deriving DecidableEq, Inhabited
structure Till where
  tk : Tks
  price : Int
  fine : Int
  wait : Int
theorem yE {α : Type} [Inhabited α] {l : List α} {i : Nat} (h : i < l.length) : gt l i ∈ l := by
  have : gt l i = l[i] := by simp [gt, List.getD, h]
  rw [this]; exact List.getElem_mem h
theorem zcr {α : Type} [Inhabited α] {l : List α} {i : Nat} (h : l.length ≤ i) : gt l i = default := by
  simp [gt, List.getD, h]
theorem uU {α : Type} [Inhabited α] {l : List α} {x : α} (h : x ∈ l) : ∃ i, i < l.length ∧ gt l i = x := by
  obtain ⟨i, hi, rfl⟩ := List.getElem_of_mem h;exact ⟨i, hi, by simp [gt, List.getD, hi]⟩
theorem wv {α : Type} [Inhabited α] {l : List α} {p : α → Bool} : l.all p = true ↔ ∀ i, i < l.length → p (gt l i) = true := by
  rw [List.all_eq_true];constructor
  · intro h i hi; exact h _ (yE hi)
  · intro h x hx;obtain ⟨i, hi, rfl⟩ := uU hx;exact h i hi
theorem zZ {p : Nat → Prop} {k : Nat} (h : ∀ i, i < k → p i) (hk : p k) : ∀ i, i < k + 1 → p i := fun i hi => by
  rcases Nat.lt_or_ge i k with h' | h'
  · exact h i h'
  · have : i = k := by omega
    rw [this]; exact hk
theorem VR {α : Type} [Inhabited α] (l : List α) (i j : Nat) (x : α) (hi : i < l.length) : gt (l.set i x) j = if i = j then x else gt l j := by
  simp only [gt, List.getD, List.getElem?_set];split
  · rename_i e; subst e; simp [hi]
  · rfl
theorem YA {α : Type} [Inhabited α] {l m : List α} {i : Nat} (h : i < l.length) : gt (l ++ m) i = gt l i := by
  simp [gt, List.getD, List.getElem?_append_left h]
theorem qk {n i : Nat} (h : i < n) : gt (List.range n) i = i := by
  simp [gt, List.getD, h]
theorem j1 {l : List Nat} (h : l.Nodup) {i j : Nat} (hi : i < l.length) (hj : j < l.length) (e : gt l i = gt l j) : i = j := by
  have h2 := List.pairwise_iff_getElem.1 h;have a1 : gt l i = l[i] := by simp [gt, List.getD, hi]
  have a2 : gt l j = l[j] := by simp [gt, List.getD, hj]
  rw [a1, a2] at e;rcases Nat.lt_trichotomy i j with h3 | h3 | h3
  · exact absurd e (h2 i j hi hj h3)
  · exact h3
  · exact absurd e.symm (h2 j i hj hi h3)
def inB (n lo hi : Int) : Bool := decide (lo ≤ n ∧ n ≤ hi)
def vX (s : Sp) : Bool := decide (0 ≤ s.lo ∧ s.lo ≤ s.hi ∧ s.hi ≤ 240 ∧ s.hi - s.lo ≤ 2)
def hutT (T : Tks) (n : Int) : Bool := decide (0 ≤ n ∧ n ≤ T.huts - 1)
def isT (T : Tks) (n : Int) : Bool := decide (0 ≤ n ∧ n ≤ (T.l.length : Int) - 1)
def vn (T : Tks) (x : Tick) : Bool := hutT T x.hut && vX x.bought && vX x.door
def tksB (T : Tks) : Bool := decide (1 ≤ T.huts ∧ T.huts ≤ 4) && decide (T.l.length ≤ 5) && T.l.all (vn T)
theorem yv (T : Tks) : tksB T = true ↔ (1 ≤ T.huts ∧ T.huts ≤ 4) ∧ T.l.length ≤ 5 ∧ ∀ i, i < T.l.length → vn T (gt T.l i) = true := by
  simp only [tksB, Bool.and_eq_true, decide_eq_true_eq, wv, and_assoc]
theorem y8 {T : Tks} (h : tksB T = true) : (1 ≤ T.huts ∧ T.huts ≤ 4) ∧ T.l.length ≤ 5 ∧ ∀ i, i < T.l.length →
    (0 ≤ (gt T.l i).hut ∧ (gt T.l i).hut < T.huts) ∧ (0 ≤ (gt T.l i).bought.lo ∧ (gt T.l i).bought.lo ≤ (gt T.l i).bought.hi ∧ (gt T.l i).bought.hi ≤ 240 ∧ (gt T.l i).bought.hi - (gt T.l i).bought.lo ≤ 2) ∧
    (0 ≤ (gt T.l i).door.lo ∧ (gt T.l i).door.lo ≤ (gt T.l i).door.hi ∧ (gt T.l i).door.hi ≤ 240 ∧ (gt T.l i).door.hi - (gt T.l i).door.lo ≤ 2) := by
  obtain ⟨h1, h2, h3⟩ := (yv T).1 h;refine ⟨h1, h2, fun i hi => ?_⟩;have := h3 i hi;simp only [vn, hutT, vX, Bool.and_eq_true, decide_eq_true_eq] at this;obtain ⟨⟨a, b⟩, c⟩ := this;exact ⟨by omega, b, c⟩
def sink (less : Nat → Nat → Bool) : Nat → List Nat → List Nat
  | 0, l => l
  | j + 1, l => if less (gt l (j + 1)) (gt l j) then sink less j ((l.set (j + 1) (gt l j)).set j (gt l (j + 1))) else l
def insT (less : Nat → Nat → Bool) : Nat → List Nat → List Nat
  | 0, l => l
  | k + 1, l => sink less (k + 1) (insT less k l)
theorem XS (less : Nat → Nat → Bool) : ∀ j l, (sink less j l).length = l.length := by
  intro j
  induction j with
  | zero => intro l; rfl
  | succ j ih =>
    intro l;unfold sink;split
    · rw [ih]; simp
    · rfl
def swp (l : List Nat) (i j : Nat) : List Nat := (l.set i (gt l j)).set j (gt l i)
theorem Ks {l : List Nat} {i j : Nat} (hi : i < l.length) (hj : j < l.length) (k : Nat) : gt (swp l i j) k = if k = j then gt l i else if k = i then gt l j else gt l k := by
  unfold swp;rw [VR _ _ _ _ (by simpa using hj), VR _ _ _ _ hi];by_cases h1 : j = k
  · rw [if_pos h1, if_pos h1.symm]
  · rw [if_neg h1];by_cases h2 : i = k
    · rw [if_pos h2, if_neg (fun h => h1 h.symm), if_pos h2.symm]
    · rw [if_neg h2, if_neg (fun h => h1 h.symm), if_neg (fun h => h2 h.symm)]
theorem JN {lt : Nat → Nat → Prop} {less : Nat → Nat → Bool} (htr : ∀ a b c, lt a b → lt b c → lt a c) (k : Nat) : ∀ j (l : List Nat), j ≤ k → k < l.length → l.Nodup → (∀ i, i < l.length → gt l i < l.length) →
    (∀ a b, a < b → b ≤ k → a ≠ j → b ≠ j → lt (gt l a) (gt l b)) → (∀ b, j < b → b ≤ k → lt (gt l j) (gt l b)) →
    (∀ a, a < j → (less (gt l j) (gt l a) = true → lt (gt l j) (gt l a)) ∧ (less (gt l j) (gt l a) = false → lt (gt l a) (gt l j))) →
    (sink less j l).Perm l ∧ (∀ a b, a < b → b ≤ k → lt (gt (sink less j l) a) (gt (sink less j l) b)) ∧ (∀ i, k < i → gt (sink less j l) i = gt l i) := by
  intro j
  induction j with
  | zero =>
    intro l hj hk hnd hin hs hx hl;refine ⟨List.Perm.refl _, fun a b hab hb => ?_, fun i _ => rfl⟩
    show lt (gt l a) (gt l b);by_cases h0 : a = 0
    · subst h0; exact hx b hab hb
    · exact hs a b hab hb h0 (by omega)
  | succ j ih =>
    intro l hj hk hnd hin hs hx hl;unfold sink;obtain ⟨hl1, hl2⟩ := hl j (by omega);by_cases hc : less (gt l (j + 1)) (gt l j) = true
    · rw [if_pos hc];have hlt := hl1 hc;have e : (l.set (j + 1) (gt l j)).set j (gt l (j + 1)) = swp l (j + 1) j := rfl;rw [e];have hg := Ks (l := l) (i := j + 1) (j := j) (by omega) (by omega);have hlen : (swp l (j + 1) j).length = l.length := by simp [swp]
      have hperm : (swp l (j + 1) j).Perm l := by
        have h1 : gt l j = l[j]'(by omega) := by simp [gt, List.getD, show j < l.length by omega]
        have h2 : gt l (j + 1) = l[j + 1]'(by omega) := by simp [gt, List.getD, show j + 1 < l.length by omega]
        unfold swp;rw [h1, h2];exact List.set_set_perm (by omega) (by omega)
      have hgj : gt (swp l (j + 1) j) j = gt l (j + 1) := by rw [hg, if_pos rfl]
      obtain ⟨h1, h2, h3⟩ := ih (swp l (j + 1) j) (by omega) (by omega) (hperm.nodup_iff.2 hnd)
        (fun i hi => by
          rw [hlen] at hi ⊢;rw [hg];split
          · exact hin _ (by omega)
          · split
            · exact hin _ (by omega)
            · exact hin _ hi)
        (fun a b hab hb ha hbj => by
          rw [hg, hg, if_neg ha, if_neg hbj];by_cases e1 : a = j + 1
          · rw [if_pos e1, if_neg (by omega)];exact hs j b (by omega) hb (by omega) (by omega)
          · rw [if_neg e1];by_cases e2 : b = j + 1
            · rw [if_pos e2];exact hs a j (by omega) (by omega) (by omega) (by omega)
            · rw [if_neg e2];exact hs a b hab hb e1 e2)
        (fun b hjb hb => by
          rw [hgj, hg, if_neg (by omega)];by_cases e2 : b = j + 1
          · rw [if_pos e2]; exact hlt
          · rw [if_neg e2];exact hx b (by omega) hb)
        (fun a ha => by
          rw [hgj, hg, if_neg (by omega), if_neg (by omega)];exact hl a (by omega))
      refine ⟨h1.trans hperm, h2, fun i hi => ?_⟩;rw [h3 i hi, hg, if_neg (by omega), if_neg (by omega)]
    · rw [if_neg hc];have hlt := hl2 (by simpa using hc);refine ⟨List.Perm.refl _, fun a b hab hb => ?_, fun i _ => rfl⟩;by_cases e1 : a = j + 1
      · subst e1; exact hx b hab hb
      · by_cases e2 : b = j + 1
        · subst e2;by_cases e3 : a = j
          · subst e3; exact hlt
          · exact htr _ _ _ (hs a j (by omega) (by omega) (by omega) (by omega)) hlt
        · exact hs a b hab hb e1 e2
def lexB (key : Nat → Int) (a b : Nat) : Prop := key a < key b ∨ (key a = key b ∧ a < b)
theorem zaB {key : Nat → Int} : ∀ a b c, lexB key a b → lexB key b c → lexB key a c := by
  intro a b c h1 h2;unfold lexB at *;omega
def yR (key : Nat → Int) (a b : Nat) : Bool := decide (key a < key b)
theorem Xt (key : Nat → Int) (n : Nat) : ∀ k, k < n → (insT (yR key) k (List.range n)).Perm (List.range n) ∧
    (∀ a b, a < b → b ≤ k → lexB key (gt (insT (yR key) k (List.range n)) a) (gt (insT (yR key) k (List.range n)) b)) ∧ (∀ i, k < i → gt (insT (yR key) k (List.range n)) i = gt (List.range n) i) ∧
    (∀ i, i ≤ k → gt (insT (yR key) k (List.range n)) i ≤ k) := by
  intro k
  induction k with
  | zero =>
    intro hn;refine ⟨List.Perm.refl _, fun a b hab hb => by omega, fun i _ => rfl, fun i hi => ?_⟩;obtain rfl : i = 0 := by omega
    show gt (List.range n) 0 ≤ 0;rw [qk hn]; exact Nat.le_refl _
  | succ k ih =>
    intro hn;obtain ⟨h1, h2, h3, h4⟩ := ih (by omega);have hlen := h1.length_eq;rw [List.length_range] at hlen;have hk1 : gt (insT (yR key) k (List.range n)) (k + 1) = k + 1 := by rw [h3 _ (by omega), qk hn]
    have hnd : (insT (yR key) k (List.range n)).Nodup := h1.nodup_iff.2 List.nodup_range
    have hin : ∀ i, i < (insT (yR key) k (List.range n)).length → gt (insT (yR key) k (List.range n)) i < (insT (yR key) k (List.range n)).length := fun i hi => by
      have := h1.mem_iff.1 (yE hi);rw [hlen]; exact List.mem_range.1 this
    obtain ⟨g1, g2, g3⟩ := JN (lt := lexB key) (less := yR key) zaB (k + 1) (k + 1) (insT (yR key) k (List.range n)) (Nat.le_refl _) (by rw [hlen]; exact hn) hnd hin
      (fun a b hab hb ha hbk => h2 a b hab (by omega)) (fun b hb hb2 => by omega)
      (fun a ha => by
        have h5 := h4 a (by omega);rw [hk1];refine ⟨fun h => .inl (of_decide_eq_true h), fun h => ?_⟩;have h6 : ¬ key (k + 1) < key (gt (insT (yR key) k (List.range n)) a) := of_decide_eq_false h;unfold lexB;omega)
    refine ⟨g1.trans h1, g2, fun i hi => by show gt (sink _ _ _) i = _; rw [g3 i hi, h3 i (by omega)], fun i hi => ?_⟩
    show gt (sink (yR key) (k + 1) (insT (yR key) k (List.range n))) i ≤ k + 1
    -- the rest stands still: so what is ahead of it is from ahead of it
    rcases Nat.lt_or_ge (k + 1) (gt (sink (yR key) (k + 1) (insT (yR key) k (List.range n))) i) with hlt | hge
    · exfalso
      have hi2 : i < (sink (yR key) (k + 1) (insT (yR key) k (List.range n))).length := by rw [XS, hlen]; omega
      have hm := (g1.trans h1).mem_iff.1 (yE hi2);have hmn := List.mem_range.1 hm
      have e1 : gt (sink (yR key) (k + 1) (insT (yR key) k (List.range n))) (gt (sink (yR key) (k + 1) (insT (yR key) k (List.range n))) i) = gt (sink (yR key) (k + 1) (insT (yR key) k (List.range n))) i := by
        rw [g3 _ hlt, h3 _ (by omega), qk hmn]
      have hnd2 := (g1.trans h1).nodup_iff.2 List.nodup_range;have hj2 : gt (sink (yR key) (k + 1) (insT (yR key) k (List.range n))) i < (sink (yR key) (k + 1) (insT (yR key) k (List.range n))).length := by rw [XS, hlen]; exact hmn
      have := j1 hnd2 hj2 hi2 e1;omega
    · exact hge
def wO (key : Nat → Int) (n : Nat) : List Nat := insT (yR key) (n - 1) (List.range n)
section
variable (key : Nat → Int) (n : Nat)
include key n
theorem xU : (wO key n).Perm (List.range n) := by
  unfold wO;cases n with
  | zero => exact List.Perm.refl _
  | succ n => exact (Xt key (n + 1) n (by omega)).1
theorem UO {a b : Nat} (hab : a < b) (hb : b < n) : lexB key (gt (wO key n) a) (gt (wO key n) b) := by
  unfold wO;exact (Xt key n (n - 1) (by omega)).2.1 a b hab (by omega)
theorem xy : (wO key n).length = n := by rw [(xU key n).length_eq, List.length_range]
theorem qw {i : Nat} (hi : i < n) : gt (wO key n) i < n := by
  have := (xU key n).mem_iff.1 (yE (by rw [xy]; exact hi));exact List.mem_range.1 this
theorem UN {i j : Nat} (hi : i < n) (hj : j < n) (h : gt (wO key n) i = gt (wO key n) j) : i = j := by
  have hnd := (xU key n).nodup_iff.2 List.nodup_range;have hi2 : i < (wO key n).length := by rw [xy]; exact hi
  have hj2 : j < (wO key n).length := by rw [xy]; exact hj
  exact j1 hnd hi2 hj2 h
theorem WU {i : Nat} (hi : i < n) : ∃ k, k < n ∧ gt (wO key n) k = i := by
  obtain ⟨k, hk, h⟩ := uU ((xU key n).mem_iff.2 (List.mem_range.2 hi));exact ⟨k, by rw [xy] at hk; exact hk, h⟩
end
end Go.Ti
namespace Go.Ti
open Go.W (gt wX)
abbrev Pr := Int × Int
abbrev Tru := Nat → Pr
def V3 : Tru := fun _ => (0, 0)
def upd (t : Tru) (i : Nat) (p : Pr) : Tru := fun j => if j = i then p else t j
theorem upd_same (t : Tru) (i : Nat) (p : Pr) : upd t i p i = p := by simp [upd]
theorem jm (t : Tru) {i j : Nat} (p : Pr) (h : j ≠ i) : upd t i p j = t j := by simp [upd, h]
def rng (lo hi : Int) : List Int := (List.range (hi - lo + 1).toNat).map fun i : Nat => lo + (i : Int)
theorem vT {lo hi x : Int} : x ∈ rng lo hi ↔ lo ≤ x ∧ x ≤ hi := by
  simp only [rng, List.mem_map, List.mem_range];constructor
  · rintro ⟨i, hi, rfl⟩; omega
  · rintro ⟨h1, h2⟩; exact ⟨(x - lo).toNat, by omega, by omega⟩
def xu (x : Tick) (a : Int) : List Pr := (rng (max a x.door.lo) x.door.hi).map fun b => (a, b)
def yb (x : Tick) : List Pr := (rng x.bought.lo x.bought.hi).flatMap (xu x)
def UA (x : Tick) (p : Pr) : Bool := decide ((x.bought.lo ≤ p.1 ∧ p.1 ≤ x.bought.hi) ∧ (x.door.lo ≤ p.2 ∧ p.2 ≤ x.door.hi) ∧ p.1 ≤ p.2)
theorem ug {x : Tick} {p : Pr} : UA x p = true ↔ (x.bought.lo ≤ p.1 ∧ p.1 ≤ x.bought.hi) ∧ (x.door.lo ≤ p.2 ∧ p.2 ≤ x.door.hi) ∧ p.1 ≤ p.2 := by simp [UA]
theorem qY {x : Tick} {p : Pr} : p ∈ yb x ↔ UA x p = true := by
  obtain ⟨a, b⟩ := p;rw [ug];simp only [yb, xu, List.mem_flatMap, List.mem_map, vT, Prod.mk.injEq];constructor
  · rintro ⟨a', h1, b', h2, rfl, rfl⟩; omega
  · rintro ⟨h1, h2, h3⟩; exact ⟨a, h1, b, by omega, rfl, rfl⟩
def ZP (a b : Int) : Bool := decide (1 - 30 ≤ a - b ∧ a - b ≤ 30 - 1)
theorem WI (a b : Int) : ZP a b = ZP b a := by
  unfold ZP; congr 1; apply propext; omega
def qD (T : Tks) (t : Tru) (o i : Nat) (p : Pr) : Bool := decide ((gt T.l o).hut = (gt T.l i).hut) && ZP (t o).2 p.2
def u5 (T : Tks) (ord : List Nat) (t : Tru) (at_ : Nat) (i : Nat) (p : Pr) : Bool := (List.range at_).all fun j => !qD T t (gt ord j) i p
def truL (T : Tks) (ord : List Nat) : Nat → Tru → Nat → List Tru
  | 0, t, _ => [t]
  | rem + 1, t, at_ => (yb (gt T.l (gt ord at_))).flatMap fun p => if u5 T ord t at_ (gt ord at_) p then truL T ord rem (upd t (gt ord at_) p) (at_ + 1) else []
def ZB (T : Tks) (i : Nat) : Int := (gt T.l i).hut
def ordT (T : Tks) : List Nat := wO (ZB T) T.l.length
def allT (T : Tks) : List Tru := truL T (ordT T) T.l.length V3 0
structure Sol (T : Tks) (x : Tru) : Prop where
  pair : ∀ i, i < T.l.length → UA (gt T.l i) (x i) = true
  apart : ∀ i j, i < T.l.length → j < T.l.length → i ≠ j → (gt T.l i).hut = (gt T.l j).hut → ZP (x i).2 (x j).2 = false
  rest : ∀ i, T.l.length ≤ i → x i = (0, 0)
theorem wT {T : Tks} {t : Tru} {o i : Nat} {p : Pr} : qD T t o i p = false ↔ ((gt T.l o).hut = (gt T.l i).hut → ZP (t o).2 p.2 = false) := by
  unfold qD;by_cases h : (gt T.l o).hut = (gt T.l i).hut <;> simp [h]
theorem Zy {T : Tks} {ord : List Nat} {t : Tru} {at_ i : Nat} {p : Pr} : u5 T ord t at_ i p = true ↔ ∀ j, j < at_ → (gt T.l (gt ord j)).hut = (gt T.l i).hut → ZP (t (gt ord j)).2 p.2 = false := by
  unfold u5;simp only [List.all_eq_true, List.mem_range, Bool.not_eq_true', wT]
theorem K4 (T : Tks) (ord : List Nat) (n : Nat) (hinj : ∀ i j, i < n → j < n → gt ord i = gt ord j → i = j) : ∀ rem t at_ x, at_ + rem = n → (x ∈ truL T ord rem t at_ ↔
    (∀ k, at_ ≤ k → k < n → UA (gt T.l (gt ord k)) (x (gt ord k)) = true ∧ ∀ j, j < k → (gt T.l (gt ord j)).hut = (gt T.l (gt ord k)).hut → ZP (x (gt ord j)).2 (x (gt ord k)).2 = false) ∧
    ∀ i, (∀ k, at_ ≤ k → k < n → gt ord k ≠ i) → x i = t i) := by
  intro rem
  induction rem with
  | zero =>
    intro t at_ x hat;simp only [truL, List.mem_singleton];constructor
    · rintro rfl;exact ⟨fun k h1 h2 => by omega, fun i _ => rfl⟩
    · rintro ⟨_, h⟩;funext i;exact h i fun k h1 h2 => by omega
  | succ rem ih =>
    intro t at_ x hat;simp only [truL, List.mem_flatMap];constructor
    · rintro ⟨p, hp, hx⟩;by_cases hf : u5 T ord t at_ (gt ord at_) p = true
      · rw [if_pos hf] at hx;obtain ⟨h1, h2⟩ := (ih _ _ _ (by omega)).1 hx
        have hown : x (gt ord at_) = p := by
          rw [h2 (gt ord at_) (fun k hk1 hk2 e => by have := hinj _ _ hk2 (by omega) e; omega), upd_same]
        have hold : ∀ j, j < at_ → x (gt ord j) = t (gt ord j) := fun j hj => by
          rw [h2 (gt ord j) (fun k hk1 hk2 e => by have := hinj _ _ hk2 (by omega) e; omega), jm];intro e;have := hinj _ _ (by omega) (by omega) e;omega
        refine ⟨fun k hk1 hk2 => ?_, fun i hi => ?_⟩
        · by_cases e : k = at_
          · subst e;rw [hown];refine ⟨qY.1 hp, fun j hj hh => ?_⟩;rw [hold j hj];exact Zy.1 hf j hj hh
          · exact h1 k (by omega) hk2
        · rw [h2 i (fun k hk1 hk2 => hi k (by omega) hk2), jm];exact fun e => hi at_ (Nat.le_refl _) (by omega) e.symm
      · rw [if_neg hf] at hx; cases hx
    · rintro ⟨h1, h2⟩;obtain ⟨hp, hf⟩ := h1 at_ (Nat.le_refl _) (by omega);have hold : ∀ j, j < at_ → x (gt ord j) = t (gt ord j) := fun j hj => h2 _ (fun k hk1 hk2 e => by have := hinj _ _ hk2 (by omega) e; omega);refine ⟨x (gt ord at_), qY.2 hp, ?_⟩;rw [if_pos (Zy.2 fun j hj hh => by rw [← hold j hj]; exact hf j hj hh)];refine (ih _ _ _ (by omega)).2 ⟨fun k hk1 hk2 => h1 k (by omega) hk2, fun i hi => ?_⟩;by_cases e : i = gt ord at_
      · rw [e, upd_same]
      · rw [jm _ _ e];refine h2 i fun k hk1 hk2 => ?_;by_cases e2 : k = at_
        · subst e2; exact fun e3 => e e3.symm
        · exact hi k (by omega) hk2
theorem zcZ {T : Tks} {ord : List Nat} (hlt : ∀ i, i < T.l.length → gt ord i < T.l.length) (hinj : ∀ i j, i < T.l.length → j < T.l.length → gt ord i = gt ord j → i = j) (honto : ∀ i, i < T.l.length → ∃ k, k < T.l.length ∧ gt ord k = i) {x : Tru} : x ∈ truL T ord T.l.length V3 0 ↔ Sol T x := by
  rw [K4 T ord T.l.length hinj _ _ _ _ (Nat.zero_add _)];constructor
  · rintro ⟨h1, h2⟩;refine ⟨fun i hi => ?_, fun i j hi hj hij hh => ?_, fun i hi => ?_⟩
    · obtain ⟨k, hk, rfl⟩ := honto i hi;exact (h1 k (Nat.zero_le _) hk).1
    · obtain ⟨k, hk, rfl⟩ := honto i hi;obtain ⟨m, hm, rfl⟩ := honto j hj;rcases Nat.lt_trichotomy k m with h | h | h
      · exact (h1 m (Nat.zero_le _) hm).2 k h hh
      · exact absurd (by rw [h]) hij
      · rw [WI]; exact (h1 k (Nat.zero_le _) hk).2 m h hh.symm
    · rw [h2 i fun k _ hk e => by have := hlt k hk; omega]; rfl
  · intro h;refine ⟨fun k _ hk => ⟨h.pair _ (hlt k hk), fun j hj hh => h.apart _ _ (hlt j (by omega)) (hlt k hk) (fun e => by have := hinj _ _ (by omega) hk e; omega) hh⟩, fun i hi => ?_⟩;rcases Nat.lt_or_ge i T.l.length with h1 | h1
    · obtain ⟨k, hk, e⟩ := honto i h1;exact absurd e (hi k (Nat.zero_le _) hk)
    · exact h.rest i h1
theorem XE {T : Tks} {x : Tru} : x ∈ allT T ↔ Sol T x := by
  unfold allT ordT;exact zcZ (fun i hi => qw _ _ hi) (fun i j hi hj => UN _ _ hi hj) (fun i hi => WU _ _ hi)
def befT (t : Tru) (a b : Nat) : Bool := decide ((t a).1 < (t b).1 ∨ ((t a).1 = (t b).1 ∧ a < b))
def WN (t : Tru) (a b : Nat) : Bool := befT t b a && decide ((t a).2 < (t b).2)
def yD (n : Nat) (t : Tru) (a : Nat) : Bool := !(List.range n).any (WN t a)
def vI (is not : Bool) : Int := if is && !not then 2 else if !is && not then 0 else 1
def qV : Nat → Tru → Int
  | 0, _ => 0
  | n + 1, t => max (qV n t) ((t n).2 - (t n).1)
def tksE (T : Tks) (is : Bool) : Int := if tksB T = false then 1 else if is = false then 2 else if (allT T).isEmpty then 10 else 0
end Go.Ti
namespace Go.Proofs.YtejgofaeafphjaaGreatDoor
open Go.W Go.Ti
theorem ze0 : zj Tryz.prog 247 [.int .i64 0] [(0, 1)] := ⟨⟨_, Tryz.zeroValue247, rfl⟩, _, Tryz.underlying247, fun w => by simp [Tryz.sizeOf51]⟩
abbrev zbR := SaF.mk ze0
attribute [instance] zbR
theorem ze2 : zj Tryz.prog 260 [.int .i64 0] [(0, 1)] := ⟨⟨_, Tryz.zeroValue260, rfl⟩, _, Tryz.underlying260, fun w => by simp [Tryz.sizeOf51]⟩
abbrev zbT := SaF.mk ze2
attribute [instance] zbT
def yc (x : Tick) : List Value := [it x.bought.lo, it x.bought.hi, it x.hut, it x.door.lo, it x.door.hi]
def natC (x : Nat) : List Value := [nt x]
theorem yn : ∀ x, (yc x).length = 5 := fun _ => rfl
theorem Jq : ∀ x, (natC x).length = 1 := fun _ => rfl
structure TksR (D : Imm) (T : Tks) (a1 : Option Addr) (n1 : Nat) : Prop where
  tick : SlL D 5 (T.l.map yc) a1 n1
  len : n1 ≤ 1000
theorem TksR.ext {w : World} {D D' : Imm} (hD : DExt w D D') {T : Tks} {a1 : Option Addr} {n1 : Nat} (h : TksR D T a1 n1) : TksR D' T a1 n1 := ⟨h.tick.ext hD, h.len⟩
def jz (e : Int) : List PanicEntry := [{ v := .iface 247 (.agg #[it e]), recovered := false }]
def UV (e : Int) : List PanicEntry := [{ v := .iface 260 (.agg #[it e]), recovered := false }]
theorem xB (n lo hi : Int) (w : World) : z8 Tryz.prog 173 [it n, it lo, it hi] w (.bool (inB n lo hi)) := by
  unfold z8;refine en Tryz.func173 rfl Tryz.ntmps173 zI (g [[1],[5,0,1,2],[5,6,0,1,2]] ?_);refine WL.part 10 rfl (fun g10 => ?_) (fun g10 => ?_)
  · try simp only [zq] at g10
    refine g [[8]] ?_;refine WP.ret1 rfl rfl rfl (RV.tmp rfl) (fun w hI => ⟨zb (by rw [Bool.eq_iff_iff]; simp [inB]; omega), hI.keep⟩)
  try simp only [zq] at g10
  refine g [[8]] ?_;refine WP.ret1 rfl rfl rfl (RV.tmp rfl) (fun w hI => ⟨zb (by rw [Bool.eq_iff_iff]; simp [inB]; omega), hI.keep⟩)
theorem xp (e : Int) (w : World) : z8 Tryz.prog 94 [.bool true, it e] w (.tuple #[]) := by
  unfold z8;refine en Tryz.func94 rfl Tryz.ntmps94 zI (g [[1],[7,0,1]] ?_);refine WP.ret0 rfl rfl rfl  (fun w hI => ⟨rfl, hI.keep⟩)
theorem xo (e : Int) (w : World) : xC Tryz.prog 94 [.bool false, it e] w (jz e) := by
  unfold xC;refine en Tryz.func94 rfl Tryz.ntmps94 zI (g [[1],[6,0,1],[4,1]] ?_);refine WL.no (SO.panic rfl ?_);refine WP.panicBody rfl (fun w hI => ⟨rfl, hI.keep⟩)
theorem xA (v : Value) (w : World) : z8 Tryz.prog 87 [.nilIface, v] w (.tuple #[]) := by
  unfold z8;refine en Tryz.func87 rfl Tryz.ntmps87 zI (g [[2],[2,0,1]] ?_);refine WL.yd (Yd.eqlNilNil UnF.h rfl) rfl (g [[5]] ?_);refine WP.ret0 rfl rfl rfl  (fun w hI => ⟨rfl, hI.keep⟩)
theorem yW (e v0 : Int) (b : Nat) (t : TypeId) (w : World) (hb : w.heap[b]? = some (.cells (List.toArray [it v0]) t (0, 0))) : Calls Tryz.prog 87 (List.toArray [.iface 247 (.agg #[it e]), pt b]) w fun en w' => (en = .returned (.tuple #[]) ∧ Keep [b] w w') ∧ w'.heap[b]? = some (.cells (List.toArray [it e]) t (0, 0)) := by
  refine en Tryz.func87 rfl Tryz.ntmps87 (Inv.one hb) (g [[2],[2,0,1]] ?_);refine WL.yd (Yd.eqlNil UnF.h rfl) rfl (g [[6],[2,0,1]] ?_);refine WL.yd (Yd.assert UnF.h (by intro _ h; cases h) rfl) rfl (g [[3]] ?_);refine WL.so (SO.alloc ZvF.h rfl) rfl (zw fun b4 hb4 => ?_);refine g [[6],[8,5,4,0,1],[7,4,1]] ?_;refine WP.ret0 rfl rfl rfl  (fun w hI => ⟨⟨rfl, hI.keep⟩, hI.own _ _ (List.mem_of_getElem? (i := 1) rfl)⟩)
theorem vu (n lo hi : Int) (w : World) : z8 Tryz.prog 182 [it n, it lo, it hi] w (.bool (inB n lo hi)) := by
  unfold z8;refine en Tryz.func182 rfl Tryz.ntmps182 zI (g [[1],[5,0,1,2],[5,6,0,1,2]] ?_);refine WL.part 10 rfl (fun g10 => ?_) (fun g10 => ?_)
  · try simp only [zq] at g10
    refine g [[8]] ?_;refine WP.ret1 rfl rfl rfl (RV.tmp rfl) (fun w hI => ⟨zb (by rw [Bool.eq_iff_iff]; simp [inB]; omega), hI.keep⟩)
  try simp only [zq] at g10
  refine g [[8]] ?_;refine WP.ret1 rfl rfl rfl (RV.tmp rfl) (fun w hI => ⟨zb (by rw [Bool.eq_iff_iff]; simp [inB]; omega), hI.keep⟩)
theorem uc (e : Int) (w : World) : z8 Tryz.prog 181 [.bool true, it e] w (.tuple #[]) := by
  unfold z8;refine en Tryz.func181 rfl Tryz.ntmps181 zI (g [[1],[7,0,1]] ?_);refine WP.ret0 rfl rfl rfl  (fun w hI => ⟨rfl, hI.keep⟩)
theorem xQ (e : Int) (w : World) : xC Tryz.prog 181 [.bool false, it e] w (UV e) := by
  unfold xC;refine en Tryz.func181 rfl Tryz.ntmps181 zI (g [[1],[6,0,1],[4,1]] ?_);refine WL.no (SO.panic rfl ?_);refine WP.panicBody rfl (fun w hI => ⟨rfl, hI.keep⟩)
theorem vl (v : Value) (w : World) : z8 Tryz.prog 96 [.nilIface, v] w (.tuple #[]) := by
  unfold z8;refine en Tryz.func96 rfl Tryz.ntmps96 zI (g [[2],[2,0,1]] ?_);refine WL.yd (Yd.eqlNilNil UnF.h rfl) rfl (g [[5]] ?_);refine WP.ret0 rfl rfl rfl  (fun w hI => ⟨rfl, hI.keep⟩)
theorem vm (e v0 : Int) (b : Nat) (t : TypeId) (w : World) (hb : w.heap[b]? = some (.cells (List.toArray [it v0]) t (0, 0))) : Calls Tryz.prog 96 (List.toArray [.iface 260 (.agg #[it e]), pt b]) w fun en w' => (en = .returned (.tuple #[]) ∧ Keep [b] w w') ∧ w'.heap[b]? = some (.cells (List.toArray [it e]) t (0, 0)) := by
  refine en Tryz.func96 rfl Tryz.ntmps96 (Inv.one hb) (g [[2],[2,0,1]] ?_);refine WL.yd (Yd.eqlNil UnF.h rfl) rfl (g [[6],[2,0,1]] ?_);refine WL.yd (Yd.assert UnF.h (by intro _ h; cases h) rfl) rfl (g [[3]] ?_);refine WL.so (SO.alloc ZvF.h rfl) rfl (zw fun b4 hb4 => ?_);refine g [[6],[8,5,4,0,1],[7,4,1]] ?_;refine WP.ret0 rfl rfl rfl  (fun w hI => ⟨⟨rfl, hI.keep⟩, hI.own _ _ (List.mem_of_getElem? (i := 1) rfl)⟩)
section
variable (b : Nat)
include b
theorem zao (w : World) : Idle Tryz.prog 116 [pt b] w := by
  refine callsD_of_wpS Tryz.func116 rfl fun c₀ cs hu => ?_;apply wpS_region;simp [wpOpsS, go_sem, recoverD, hu, Tryz.ntmps116];refine (xA (pt b) w).mono ?_;rintro e w' ⟨rfl, hk⟩;cases c₀
  simp only at hu;subst hu;simp [bodyPostS, results, Tryz.results116, hk]
theorem kf (e v0 : Int) (t : TypeId) (w : World) (hb : w.heap[b]? = some (.cells (List.toArray [it v0]) t (0, 0))) : uw Tryz.prog 116 [pt b] (.iface 247 (.agg #[it e])) b (.cells (List.toArray [it e]) t (0, 0)) w := by
  refine callsD_of_wpS Tryz.func116 rfl fun c₀ cs hu => ?_;apply wpS_region;simp [wpOpsS, go_sem, recoverD, hu, Tryz.ntmps116];refine (yW e v0 b t w hb).mono ?_;rintro en w' ⟨⟨rfl, hk⟩, hb'⟩;cases c₀
  simp only at hu;subst hu;simp [bodyPostS, results, Tryz.results116, hk, hb']
theorem zar (w : World) : Idle Tryz.prog 241 [pt b] w := by
  refine callsD_of_wpS Tryz.func241 rfl fun c₀ cs hu => ?_;apply wpS_region;simp [wpOpsS, go_sem, recoverD, hu, Tryz.ntmps241];refine (xA (pt b) w).mono ?_;rintro e w' ⟨rfl, hk⟩;cases c₀
  simp only at hu;subst hu;simp [bodyPostS, results, Tryz.results241, hk]
theorem Xd (e v0 : Int) (t : TypeId) (w : World) (hb : w.heap[b]? = some (.cells (List.toArray [it v0]) t (0, 0))) : uw Tryz.prog 241 [pt b] (.iface 247 (.agg #[it e])) b (.cells (List.toArray [it e]) t (0, 0)) w := by
  refine callsD_of_wpS Tryz.func241 rfl fun c₀ cs hu => ?_;apply wpS_region;simp [wpOpsS, go_sem, recoverD, hu, Tryz.ntmps241];refine (yW e v0 b t w hb).mono ?_;rintro en w' ⟨⟨rfl, hk⟩, hb'⟩;cases c₀
  simp only at hu;subst hu;simp [bodyPostS, results, Tryz.results241, hk, hb']
theorem YC (w : World) : Idle Tryz.prog 351 [pt b] w := by
  refine callsD_of_wpS Tryz.func351 rfl fun c₀ cs hu => ?_;apply wpS_region;simp [wpOpsS, go_sem, recoverD, hu, Tryz.ntmps351];refine (xA (pt b) w).mono ?_;rintro e w' ⟨rfl, hk⟩;cases c₀
  simp only at hu;subst hu;simp [bodyPostS, results, Tryz.results351, hk]
theorem xO (e v0 : Int) (t : TypeId) (w : World) (hb : w.heap[b]? = some (.cells (List.toArray [it v0]) t (0, 0))) : uw Tryz.prog 351 [pt b] (.iface 247 (.agg #[it e])) b (.cells (List.toArray [it e]) t (0, 0)) w := by
  refine callsD_of_wpS Tryz.func351 rfl fun c₀ cs hu => ?_;apply wpS_region;simp [wpOpsS, go_sem, recoverD, hu, Tryz.ntmps351];refine (yW e v0 b t w hb).mono ?_;rintro en w' ⟨⟨rfl, hk⟩, hb'⟩;cases c₀
  simp only at hu;subst hu;simp [bodyPostS, results, Tryz.results351, hk, hb']
theorem zaq (w : World) : Idle Tryz.prog 145 [pt b] w := by
  refine callsD_of_wpS Tryz.func145 rfl fun c₀ cs hu => ?_;apply wpS_region;simp [wpOpsS, go_sem, recoverD, hu, Tryz.ntmps145];refine (vl (pt b) w).mono ?_;rintro e w' ⟨rfl, hk⟩;cases c₀
  simp only at hu;subst hu;simp [bodyPostS, results, Tryz.results145, hk]
theorem QJ (e v0 : Int) (t : TypeId) (w : World) (hb : w.heap[b]? = some (.cells (List.toArray [it v0]) t (0, 0))) : uw Tryz.prog 145 [pt b] (.iface 260 (.agg #[it e])) b (.cells (List.toArray [it e]) t (0, 0)) w := by
  refine callsD_of_wpS Tryz.func145 rfl fun c₀ cs hu => ?_;apply wpS_region;simp [wpOpsS, go_sem, recoverD, hu, Tryz.ntmps145];refine (vm e v0 b t w hb).mono ?_;rintro en w' ⟨⟨rfl, hk⟩, hb'⟩;cases c₀
  simp only at hu;subst hu;simp [bodyPostS, results, Tryz.results145, hk, hb']
theorem znt (w : World) : Idle Tryz.prog 211 [pt b] w := by
  refine callsD_of_wpS Tryz.func211 rfl fun c₀ cs hu => ?_;apply wpS_region;simp [wpOpsS, go_sem, recoverD, hu, Tryz.ntmps211];refine (vl (pt b) w).mono ?_;rintro e w' ⟨rfl, hk⟩;cases c₀
  simp only at hu;subst hu;simp [bodyPostS, results, Tryz.results211, hk]
theorem znb (e v0 : Int) (t : TypeId) (w : World) (hb : w.heap[b]? = some (.cells (List.toArray [it v0]) t (0, 0))) : uw Tryz.prog 211 [pt b] (.iface 260 (.agg #[it e])) b (.cells (List.toArray [it e]) t (0, 0)) w := by
  refine callsD_of_wpS Tryz.func211 rfl fun c₀ cs hu => ?_;apply wpS_region;simp [wpOpsS, go_sem, recoverD, hu, Tryz.ntmps211];refine (vm e v0 b t w hb).mono ?_;rintro en w' ⟨⟨rfl, hk⟩, hb'⟩;cases c₀
  simp only at hu;subst hu;simp [bodyPostS, results, Tryz.results211, hk, hb']
theorem VX (w : World) : V7 Tryz.prog 95 [pt b] w := by
  refine yI Tryz.func95 rfl fun c₀ cs hu => ?_;apply wpS_region;simp [wpOpsS, go_sem, recoverD, hu, Tryz.ntmps95];refine (vl (pt b) w).mono ?_;rintro e w' ⟨rfl, hk⟩;cases c₀
  simp only at hu;subst hu;simp [bodyPostS, results, Tryz.results95, hk]
theorem Vv (e v0 : Int) (t : TypeId) (w : World) (hb : w.heap[b]? = some (.cells (List.toArray [it v0]) t (0, 0))) : uw Tryz.prog 95 [pt b] (.iface 260 (.agg #[it e])) b (.cells (List.toArray [it e]) t (0, 0)) w := by
  refine callsD_of_wpS Tryz.func95 rfl fun c₀ cs hu => ?_;apply wpS_region;simp [wpOpsS, go_sem, recoverD, hu, Tryz.ntmps95];refine (vm e v0 b t w hb).mono ?_;rintro en w' ⟨⟨rfl, hk⟩, hb'⟩;cases c₀
  simp only at hu;subst hu;simp [bodyPostS, results, Tryz.results95, hk, hb']
theorem Xp (w : World) : V7 Tryz.prog 101 [pt b] w := by
  refine yI Tryz.func101 rfl fun c₀ cs hu => ?_;apply wpS_region;simp [wpOpsS, go_sem, recoverD, hu, Tryz.ntmps101];refine (vl (pt b) w).mono ?_;rintro e w' ⟨rfl, hk⟩;cases c₀
  simp only at hu;subst hu;simp [bodyPostS, results, Tryz.results101, hk]
theorem Xc (e v0 : Int) (t : TypeId) (w : World) (hb : w.heap[b]? = some (.cells (List.toArray [it v0]) t (0, 0))) : uw Tryz.prog 101 [pt b] (.iface 260 (.agg #[it e])) b (.cells (List.toArray [it e]) t (0, 0)) w := by
  refine callsD_of_wpS Tryz.func101 rfl fun c₀ cs hu => ?_;apply wpS_region;simp [wpOpsS, go_sem, recoverD, hu, Tryz.ntmps101];refine (vm e v0 b t w hb).mono ?_;rintro en w' ⟨⟨rfl, hk⟩, hb'⟩;cases c₀
  simp only at hu;subst hu;simp [bodyPostS, results, Tryz.results101, hk, hb']
theorem zn1 (w : World) : Idle Tryz.prog 213 [pt b] w := by
  refine callsD_of_wpS Tryz.func213 rfl fun c₀ cs hu => ?_;apply wpS_region;simp [wpOpsS, go_sem, recoverD, hu, Tryz.ntmps213];refine (vl (pt b) w).mono ?_;rintro e w' ⟨rfl, hk⟩;cases c₀
  simp only at hu;subst hu;simp [bodyPostS, results, Tryz.results213, hk]
end
def datN (l : List Nat) (rest : List Value) : Obj := .cells (List.toArray (l.map nt ++ rest)) 3 (0, 0)
theorem W3 {l : List Nat} {i j : Nat} (rest : List Value) (hi : i < l.length) (hj : j < l.length) : splice (splice (l.map nt ++ rest) (0 + i * 1) [nt (gt l j)]) (0 + j * 1) [nt (gt l i)] = (swp l i j).map nt ++ rest := by
  unfold swp;rw [vi _ _ _ _ hi, vi _ _ _ _ (by simpa using hj)]
theorem UT {l : List Nat} (rest : List Value) {i j x : Nat} (hi : i < l.length) (hj : j < l.length) : 0 + j * 1 + 1 ≤ (splice (l.map nt ++ rest) (0 + i * 1) [nt x]).length := by
  rw [vi _ _ _ _ hi]; exact qQ _ _ (by rw [List.length_set]; exact hj)
section
variable {less : Nat → Nat → Bool} {j : Nat} {l : List Nat} (hj : 0 < j)
include less j l hj
theorem UL (h : less (gt l j) (gt l (j - 1)) = true) : sink less (j - 1) (swp l j (j - 1)) = sink less j l := by
  obtain ⟨k, rfl⟩ : ∃ k, j = k + 1 := ⟨j - 1, by omega⟩;rw [Nat.add_sub_cancel] at h ⊢;rw [sink, if_pos h];rfl
theorem UM (h : less (gt l j) (gt l (j - 1)) = false) : sink less j l = l := by
  obtain ⟨k, rfl⟩ : ∃ k, j = k + 1 := ⟨j - 1, by omega⟩;rw [Nat.add_sub_cancel] at h;rw [sink, if_neg (by rw [h]; simp)]
end
def InN (n : Nat) (l : List Nat) : Prop := l.length = n ∧ ∀ i, i < n → gt l i < n
theorem InN.swp {n : Nat} {l : List Nat} (h : InN n l) {i j : Nat} (hi : i < n) (hj : j < n) : InN n (swp l i j) := by
  refine ⟨by simp [Go.Ti.swp, h.1], fun k hk => ?_⟩;rw [Ks (by rw [h.1]; exact hi) (by rw [h.1]; exact hj)];split
  · exact h.2 _ hi
  split
  · exact h.2 _ hj
  exact h.2 _ hk
theorem InN.sink {n : Nat} (less : Nat → Nat → Bool) : ∀ j (l : List Nat), InN n l → j < n → InN n (sink less j l) := by
  intro j
  induction j with
  | zero => intro l h _; exact h
  | succ j ih =>
    intro l h hj;unfold Go.Ti.sink;split
    · exact ih _ (h.swp hj (by omega)) (by omega)
    exact h
theorem InN.ins {n : Nat} (less : Nat → Nat → Bool) : ∀ k (l : List Nat), InN n l → k < n → InN n (insT less k l) := by
  intro k
  induction k with
  | zero => intro l h _; exact h
  | succ k ih => intro l h hk; exact InN.sink less _ _ (ih l h (by omega)) hk
section
variable (less : Nat → Nat → Bool) (l : List Nat) (rest : List Value) (bd cap n0 : Nat) (D : Imm) (w : World) (hok : InN n0 l) (hl : n0 < 20) (fi : FuncId) (cp : List Value) (hfi : ∀ args w, (callFunc fi args).run Tryz.prog w = .ok (.enter fi args) w) (cr : Nat → Nat → Int) (hF : ∀ w', Holds D w' → ∀ i j, i < n0 → j < n0 → z8 Tryz.prog fi (nt i :: nt j :: cp) w' (it (cr i j))) (hcr : ∀ i j, i < n0 → j < n0 → decide (cr i j < 0) = less i j) (hI0 : Inv D [(bd, datN l rest)] [bd] w w)
include less l rest bd cap n0 D w hok hl fi cp hfi cr hF hcr hI0
theorem zhp : wP Tryz.prog 276 [.slice (some ⟨bd, 0, none⟩) n0 cap, nt 0, nt n0, .func (.func fi) #[] cp.toArray] w D [bd] (fun v D' hpc' => v = .tuple #[] ∧ D = D' ∧ hpc' = [(bd, datN (insT less (n0 - 1) l) rest)]) := by
  unfold wP;refine en Tryz.func276 rfl Tryz.ntmps276 hI0 (g [[1],[2,0,1,2,3]] ?_);refine WL.yd (Yd.addN rfl rfl (by (try dsimp only); omega)) rfl (g [[4]] ?_);refine WC.loop (fun k : Nat => [(0, .slice (some ⟨bd, 0, none⟩) n0 cap), (1, nt 0), (2, nt n0), (3, .func (.func fi) #[] cp.toArray), (8, nt (k + 1))]) (fun k => [(bd, datN (insT less k l) rest)]) (fun _ => D) (fun k => k ≤ n0 - 1) (fun k => n0 - k) 0 (by omega) (fun a w h => y4 h ⟨rfl, rfl, rfl, rfl, rfl, trivial⟩) ?_;intro k hk;refine g [[2],[6,0,1,2,3,8]] ?_;refine WC.cond rfl (fun c14 => ?_) (fun c14 => ?_)
  · try simp only [zq] at c14
    have hib : k + 1 < n0 := by omega
    have hok1 := InN.ins less k l hok (by omega);refine g [[5],[6,0,1,2,3,8]] ?_;refine WC.loop (fun y : Nat × List Nat => [(0, .slice (some ⟨bd, 0, none⟩) n0 cap), (1, nt 0), (2, nt n0), (3, .func (.func fi) #[] cp.toArray), (8, nt (k + 1)), (9, nt y.1)]) (fun y => [(bd, datN y.2 rest)]) (fun _ => D) (fun y => sink less y.1 y.2 = insT less (k + 1) l ∧ InN n0 y.2 ∧ y.1 < n0) (fun y => y.1) (⟨k + 1, insT less k l⟩ : Nat × List Nat) ⟨rfl, hok1, hib⟩ (fun a w h => y4 h ⟨rfl, rfl, rfl, rfl, rfl, rfl, trivial⟩) ?_;rintro ⟨j, l3⟩ ⟨hw3, hok3, hj3⟩;dsimp only at hw3 hok3 hj3;refine g [[2],[0,0,1,2,3,8,9],[3014],[4]] ?_;refine WQ.part 21 rfl (fun g21 => ?_) (fun g21 => ?_)
    · try simp only [zq] at g21
      have hja : 0 < j := by omega
      have hl3 := hok3.1;have hp1 : gt l3 j < n0 := hok3.2 j (by omega);have hp2 : gt l3 (j - 1) < n0 := hok3.2 (j - 1) (by omega);have hcc := hcr _ _ hp1 hp2;refine g [[3]] ?_;refine WQ.qg rfl rfl (Yd.qt (Yd.indexS UnF.h SzF.h rfl rfl (by (try dsimp only); omega) (by (try dsimp only); omega) (rfl))) rfl ?_;refine WQ.qg rfl rfl (Yd.qt (Yd.l1 rfl (vD (k := 0) rfl (by (try dsimp only); omega)))) rfl (g [[2]] ?_);refine WQ.qg rfl rfl (Yd.qt (Yd.subN rfl rfl (by (try dsimp only); omega) (by (try dsimp only); omega))) rfl ?_;refine WQ.qg rfl rfl (Yd.qt (Yd.indexS UnF.h SzF.h rfl rfl (by (try dsimp only); omega) (by (try dsimp only); omega) (rfl))) rfl ?_;refine WQ.qg rfl rfl (Yd.qt (Yd.l1 rfl (vD (k := 0) rfl (by (try dsimp only); omega)))) rfl (g [[1]] ?_);refine WL.sog rfl (SO.call (Enters.val hfi rfl rfl) (fun w hI => hF w hI.imm _ _ hp1 hp2)) rfl (zs (g [[4]] ?_));refine WC.cond rfl (fun c34 => ?_) (fun c34 => ?_)
      · try simp only [zq] at c34
        have hls : less (gt l3 j) (gt l3 (j - 1)) = true := by rw [← hcc]; exact decide_eq_true c34
        have hst := UL hja hls;refine g [[4],[0,0,1,2,3,8,9]] ?_;refine WC.drawH [] zk (fun _ hI => hI.drop 99) (g [[1000],[1001],[1002],[1003]] ?_);refine WH.yd (i := 4) zk zX rfl (Yd.subN rfl rfl (by (try dsimp only); omega) (by (try dsimp only); omega)) rfl (g [[1005],[1006]] ?_);refine WH.yd (i := 7) zk zX rfl (Yd.subN rfl rfl (by (try dsimp only); omega) (by (try dsimp only); omega)) rfl ?_;refine WH.yd (i := 8) zk zX rfl (Yd.indexS UnF.h SzF.h rfl rfl (by (try dsimp only); omega) (by (try dsimp only); omega) (rfl)) rfl (g [[1010],[1011]] ?_);refine WH.yd (i := 12) zk zX rfl (Yd.indexS UnF.h SzF.h rfl rfl (by (try dsimp only); omega) (by (try dsimp only); omega) (rfl)) rfl ?_;refine WH.two (i := 9) (j := 13) zk ?_ ?_
        · refine WHo.yd rfl (Yd.l1 rfl (vD (k := 0) rfl (by (try dsimp only); omega))) rfl ?_;refine WH.one (i := 13) zk (WHo.yd rfl (Yd.l1 rfl (vD (k := 0) rfl (by (try dsimp only); omega))) rfl ?_);refine WH.yd (i := 14) zk zX rfl (Yd.indexS UnF.h SzF.h rfl rfl (by (try dsimp only); omega) (by (try dsimp only); omega) (rfl)) rfl ?_;refine WH.one (i := 15) zk (WHo.so rfl (SO.store 0 rfl SzF.h rfl rfl rfl rfl (qQ _ _ (by (try dsimp only); omega)) (za rfl)) rfl ?_);rintro _ _ _ ⟨rfl, rfl, rfl⟩;refine ⟨(fun _ hI => hI.drop 99), ?_⟩;refine WH.yd (i := 16) zk zX rfl (Yd.indexS UnF.h SzF.h rfl rfl (by (try dsimp only); omega) (by (try dsimp only); omega) (rfl)) rfl ?_;refine WH.one (i := 17) zk (WHo.so rfl (SO.store 0 rfl SzF.h rfl rfl rfl rfl (UT rest (by (try dsimp only); omega) (by (try dsimp only); omega)) (za rfl)) rfl ?_);rintro _ _ _ ⟨rfl, rfl, rfl⟩;refine ⟨(fun _ hI => hI.drop 99), ?_⟩;refine WH.nil zk (g [[2],[2,0,1,2,3,8,9]] ?_);refine WL.yd (Yd.subN rfl rfl (by (try dsimp only); omega) (by (try dsimp only); omega)) rfl (g [[2]] ?_);refine WP.again (⟨j - 1, swp l3 j (j - 1)⟩ : Nat × List Nat) ⟨by rw [hst]; exact hw3, hok3.swp (by omega) (by omega), by simp only; omega⟩ (by simp only; omega) (fun aa ww h => ?_)
          show At _ [(0, .slice (some ⟨bd, 0, none⟩) n0 cap), (1, nt 0), (2, nt n0), (3, .func (.func fi) #[] cp.toArray), (8, nt (k + 1)), (9, nt (j - 1))] D [(bd, .cells (List.toArray ((swp l3 j (j - 1)).map nt ++ rest)) 3 (0, 0))] aa ww;rw [← W3 rest (by omega) (by omega)];exact y4 h ⟨rfl, rfl, rfl, rfl, rfl, rfl, trivial⟩
        refine WHo.yd rfl (Yd.l1 rfl (vD (k := 0) rfl (by (try dsimp only); omega))) rfl ?_;refine WH.one (i := 9) zk (WHo.yd rfl (Yd.l1 rfl (vD (k := 0) rfl (by (try dsimp only); omega))) rfl ?_);refine WH.yd (i := 14) zk zX rfl (Yd.indexS UnF.h SzF.h rfl rfl (by (try dsimp only); omega) (by (try dsimp only); omega) (rfl)) rfl ?_;refine WH.one (i := 15) zk (WHo.so rfl (SO.store 0 rfl SzF.h rfl rfl rfl rfl (qQ _ _ (by (try dsimp only); omega)) (za rfl)) rfl ?_);rintro _ _ _ ⟨rfl, rfl, rfl⟩;refine ⟨(fun _ hI => hI.drop 99), ?_⟩;refine WH.yd (i := 16) zk zX rfl (Yd.indexS UnF.h SzF.h rfl rfl (by (try dsimp only); omega) (by (try dsimp only); omega) (rfl)) rfl ?_;refine WH.one (i := 17) zk (WHo.so rfl (SO.store 0 rfl SzF.h rfl rfl rfl rfl (UT rest (by (try dsimp only); omega) (by (try dsimp only); omega)) (za rfl)) rfl ?_);rintro _ _ _ ⟨rfl, rfl, rfl⟩;refine ⟨(fun _ hI => hI.drop 99), ?_⟩;refine WH.nil zk (g [[2],[2,0,1,2,3,8,9]] ?_);refine WL.yd (Yd.subN rfl rfl (by (try dsimp only); omega) (by (try dsimp only); omega)) rfl (g [[2]] ?_);refine WP.again (⟨j - 1, swp l3 j (j - 1)⟩ : Nat × List Nat) ⟨by rw [hst]; exact hw3, hok3.swp (by omega) (by omega), by simp only; omega⟩ (by simp only; omega) (fun aa ww h => ?_)
        show At _ [(0, .slice (some ⟨bd, 0, none⟩) n0 cap), (1, nt 0), (2, nt n0), (3, .func (.func fi) #[] cp.toArray), (8, nt (k + 1)), (9, nt (j - 1))] D [(bd, .cells (List.toArray ((swp l3 j (j - 1)).map nt ++ rest)) 3 (0, 0))] aa ww;rw [← W3 rest (by omega) (by omega)];exact y4 h ⟨rfl, rfl, rfl, rfl, rfl, rfl, trivial⟩
      try simp only [zq] at c34
      have hls : less (gt l3 j) (gt l3 (j - 1)) = false := by rw [← hcc]; exact decide_eq_false (Int.not_lt.2 c34)
      obtain rfl : l3 = insT less (k + 1) l := (UM hja hls).symm.trans hw3;refine g [[6],[2,0,1,2,3,8]] ?_;refine WL.yd (Yd.addN rfl rfl (by (try dsimp only); omega)) rfl (g [[2]] ?_);exact WP.again (k + 1) (by omega) (by omega) (fun aa ww h => y4 h ⟨rfl, rfl, rfl, rfl, rfl, trivial⟩)
    try simp only [zq] at g21
    obtain rfl : j = 0 := by omega
    obtain rfl : l3 = insT less (k + 1) l := hw3;refine g [[23],[2,0,1,2,3,8]] ?_;refine WL.yd (Yd.addN rfl rfl (by (try dsimp only); omega)) rfl (g [[2]] ?_);exact WP.again (k + 1) (by omega) (by omega) (fun aa ww h => y4 h ⟨rfl, rfl, rfl, rfl, rfl, trivial⟩)
  try simp only [zq] at c14
  have hib : ¬ k + 1 < n0 := by omega
  obtain rfl : k = n0 - 1 := by omega
  refine g [[4]] ?_;refine WP.ret0 rfl rfl rfl  (fun w1 hI => ⟨_, D, _, rfl, DExt.refl _ _, hI, fun _ h => h, rfl, rfl, rfl⟩)
theorem zd8 : wP Tryz.prog 239 [.slice (some ⟨bd, 0, none⟩) n0 cap, nt n0, .func (.func fi) #[] cp.toArray] w D [bd] (fun v D' hpc' => v = .tuple #[] ∧ D = D' ∧ hpc' = [(bd, datN (insT less (n0 - 1) l) rest)]) := by
  unfold wP;refine en Tryz.func239 rfl Tryz.ntmps239 hI0 (g [[1],[5,0,1,2],[8,6,0,1,2]] ?_);refine WC.loop (fun _ : Unit => [(0, .slice (some ⟨bd, 0, none⟩) n0 cap), (1, nt n0), (2, .func (.func fi) #[] cp.toArray), (6, nt 20), (7, nt 0), (8, nt 20)]) (fun _ => [(bd, datN l rest)]) (fun _ => D) (fun _ => True) (fun _ => 0) () trivial (fun a w h => y4 h ⟨rfl, rfl, rfl, rfl, rfl, rfl, trivial⟩) ?_;rintro ⟨⟩ -;refine g [[2],[6,0,1,2,6,7,8]] ?_;refine WC.cond rfl (fun c13 => ?_) (fun c13 => ?_)
  · try simp only [zq] at c13
    omega
  try simp only [zq] at c13
  refine g [[6],[5,0,1,2,6,7,8]] ?_;refine WL.so (SO.alters (own := []) (hpc := [_]) (S1 := [bd]) (fun _ h => h) (fun h => h) (fun _ h => h) (fun _ h => h) (Enters.func CaF.h rfl) (fun w1 hI => zhp less l rest bd cap n0 D w1 hok hl fi cp hfi cr hF hcr hI)) rfl ?_;rintro _ _ _ ⟨_, _, ⟨rfl, rfl, rfl⟩, rfl⟩;refine g [[3]] ?_;refine WC.loop (fun _ : Unit => [(0, .slice (some ⟨bd, 0, none⟩) n0 cap), (1, nt n0), (2, .func (.func fi) #[] cp.toArray), (6, nt 20)]) (fun _ => [(bd, datN (insT less (n0 - 1) l) rest)]) (fun _ => D) (fun _ => True) (fun _ => 0) () trivial (fun a w h => y4 h ⟨rfl, rfl, rfl, rfl, trivial⟩) ?_;rintro ⟨⟩ -;refine g [[2],[6,0,1,2,6]] ?_;refine WC.cond rfl (fun c30 => ?_) (fun c30 => ?_)
  · try simp only [zq] at c30
    omega
  try simp only [zq] at c30
  refine g [[4]] ?_;refine WP.ret0 rfl rfl rfl  (fun w1 hI => ⟨_, D, _, rfl, DExt.refl _ _, hI, fun _ h => h, rfl, rfl, rfl⟩)
theorem zd1 : wP Tryz.prog 175 [.slice (some ⟨bd, 0, none⟩) n0 cap, .func (.func fi) #[] cp.toArray] w D [bd] (fun v D' hpc' => v = .tuple #[] ∧ D = D' ∧ hpc' = [(bd, datN (insT less (n0 - 1) l) rest)]) := by
  unfold wP;refine en Tryz.func175 rfl Tryz.ntmps175 hI0 (g [[5,0,1]] ?_);refine WL.so (SO.alters (own := []) (hpc := [_]) (S1 := [bd]) (fun _ h => h) (fun h => h) (fun _ h => h) (fun _ h => h) (Enters.func CaF.h rfl) (fun w1 hI => zd8 less l rest bd cap n0 D w1 hok hl fi cp hfi cr hF hcr hI)) rfl ?_;rintro _ _ _ ⟨_, _, ⟨rfl, rfl, rfl⟩, rfl⟩;refine g [[1]] ?_;refine WP.ret0 rfl rfl rfl  (fun w1 hI => ⟨_, D, _, rfl, DExt.refl _ _, hI, fun _ h => h, rfl, rfl, rfl⟩)
end
section
variable (a3 : Option Addr) (c3 : Nat) (cv : Value) (w : World)
include a3 c3 cv w
theorem zho : z8 Tryz.prog 276 [.slice a3 0 c3, nt 0, nt 0, cv] w (.tuple #[]) := by
  unfold z8;refine en Tryz.func276 rfl Tryz.ntmps276 zI (g [[1],[2,0,1,2,3]] ?_);refine WL.yd (Yd.addN (i := 0) (j := 1) rfl rfl (by omega)) rfl (g [[4]] ?_);refine WC.loopF (fun _ : Unit => [(0, .slice a3 0 c3), (1, nt 0), (2, nt 0), (3, cv), (8, nt 1)]) (fun _ => True) (fun _ => 0) () trivial ⟨rfl, rfl, rfl, rfl, rfl, trivial⟩ ?_;rintro ⟨⟩ -;refine g [[2],[6,0,1,2,3,8]] ?_;refine WC.cond rfl (fun c14 => ?_) (fun c14 => ?_)
  · try simp only [zq] at c14
    omega
  try simp only [zq] at c14
  refine g [[4]] ?_;refine WP.ret0 rfl rfl rfl  (fun w hI => ⟨rfl, hI.keep⟩)
theorem zd7 : z8 Tryz.prog 239 [.slice a3 0 c3, nt 0, cv] w (.tuple #[]) := by
  unfold z8;refine en Tryz.func239 rfl Tryz.ntmps239 zI (g [[1],[5,0,1,2],[8,6,0,1,2]] ?_);refine WC.loopF (fun _ : Unit => [(0, .slice a3 0 c3), (1, nt 0), (2, cv), (6, nt 20), (7, nt 0), (8, nt 20)]) (fun _ => True) (fun _ => 0) () trivial ⟨rfl, rfl, rfl, rfl, rfl, rfl, trivial⟩ ?_;rintro ⟨⟩ -;refine g [[2],[6,0,1,2,6,7,8]] ?_;refine WC.cond rfl (fun c13 => ?_) (fun c13 => ?_)
  · try simp only [zq] at c13
    omega
  try simp only [zq] at c13
  refine g [[6],[5,0,1,2,6,7,8]] ?_;refine WL.cl rfl (fun w hI => zho _ _ _ _) (g [[3]] ?_);refine WC.loopF (fun _ : Unit => [(0, .slice a3 0 c3), (1, nt 0), (2, cv), (6, nt 20)]) (fun _ => True) (fun _ => 0) () trivial ⟨rfl, rfl, rfl, rfl, trivial⟩ ?_;rintro ⟨⟩ -;refine g [[2],[6,0,1,2,6]] ?_;refine WC.cond rfl (fun c30 => ?_) (fun c30 => ?_)
  · try simp only [zq] at c30
    omega
  try simp only [zq] at c30
  refine g [[4]] ?_;refine WP.ret0 rfl rfl rfl  (fun w hI => ⟨rfl, hI.keep⟩)
theorem zd0 : z8 Tryz.prog 175 [.slice a3 0 c3, cv] w (.tuple #[]) := by
  unfold z8;refine en Tryz.func175 rfl Tryz.ntmps175 zI (g [[5,0,1]] ?_);refine WL.cl rfl (fun w hI => zd7 _ _ _ _) (g [[1]] ?_);refine WP.ret0 rfl rfl rfl  (fun w hI => ⟨rfl, hI.keep⟩)
end
theorem ze1 : zj Tryz.prog 250 [.int .i64 0, .slice none 0 0, .slice none 0 0] [(0, 2), (2, 1)] := ⟨⟨_, Tryz.zeroValue250, rfl⟩, _, Tryz.underlying250, fun w => by simp [Tryz.sizeOf24, Tryz.sizeOf94]⟩
abbrev zbS := SaF.mk ze1
attribute [instance] zbS
theorem zak (l : List Nat) : l.flatMap natC = l.map nt := by
  induction l with
  | nil => rfl
  | cons x l ih => rw [List.flatMap_cons, ih]; rfl
theorem zbd (less : Nat → Nat → Bool) (l : List Nat) (o : Option Ow) (n0 : Nat) (D : Imm) (w w0 : World) (hok : InN n0 l) (hl : n0 < 20) (ho : owP w0 o n0 1) (fi : FuncId) (cp : List Value) (hfi : ∀ args w, (callFunc fi args).run Tryz.prog w = .ok (.enter fi args) w) (cr : Nat → Nat → Int) (hF : ∀ w', Holds D w' → ∀ i j, i < n0 → j < n0 → z8 Tryz.prog fi (nt i :: nt j :: cp) w' (it (cr i j))) (hcr : ∀ i j, i < n0 → j < n0 → decide (cr i j < 0) = less i j) (hI0 : Inv D (owH o 3 (l.map nt) []) (keys (owH o 3 (l.map nt) [])) w w) :
    wP Tryz.prog 175 [owV o n0, .func (.func fi) #[] cp.toArray] w D (keys (owH o 3 (l.map nt) [])) (fun v D' hpc' => v = .tuple #[] ∧ D = D' ∧ hpc' = owH o 3 ((insT less (n0 - 1) l).map nt) []) := by
  cases o with
  | none =>
    have h0 : n0 = 0 := ho;subst h0;have hl0 : l = [] := List.eq_nil_of_length_eq_zero hok.1;subst hl0;refine (zd0 none 0 _ w).mono ?_;rintro e w' ⟨rfl, hk⟩;exact ⟨_, D, [], rfl, DExt.refl _ _, hI0.call hk, fun _ h => h, rfl, rfl, rfl⟩
  | some u => exact zd1 less l u.rest u.b u.cap n0 D w hok hl fi cp hfi cr hF hcr hI0
theorem yC {T : Tks} {x : Tick} (h : vn T x = true) : hutT T x.hut = true ∧ vX x.bought = true ∧ vX x.door = true := by
  simpa only [vn, Bool.and_eq_true, and_assoc] using h
def boxT (T : Tks) (s1 : Value) : Obj := .cells (List.toArray [it T.huts, s1]) 24 (0, 0)
def offO (T : Tks) (s1 s3 : Value) : Obj := .cells (List.toArray [it T.huts, s1, s3]) 250 (0, 0)
def xM (D : Imm) (q : Nat) (T : Tks) (s1 : Value) : Prop := ∃ a3 c3, D q = some (offO T s1 (.slice a3 T.l.length c3)) ∧ SlL D 1 ((ordT T).map natC) a3 T.l.length ∧ T.l.length ≤ c3
theorem zaV {w0 : World} {o : Option Ow} {n m : Nat} (h : owP w0 o n m) : n ≤ owCp o n := by
  cases o with
  | none => exact Nat.le_of_eq h
  | some u => exact h.2.1
theorem xM.ext {w : World} {D D' : Imm} (hD : DExt w D D') {q : Nat} {T : Tks} {s1 : Value} (h : xM D q T s1) : xM D' q T s1 := by
  obtain ⟨a3, c3, h1, h2, h3⟩ := h;exact ⟨a3, c3, hD.old _ _ h1, h2.ext hD, h3⟩
def zdI (T : Tks) (s1 : Value) (is : Bool) (D : Imm) (w : World) (e : Ending) (w' : World) : Prop :=
  (tksB T = false → e = .panicked (jz 1) ∧ Keep [] w w') ∧ (tksB T = true → is = false → e = .panicked (jz 2) ∧ Keep [] w w') ∧
  (tksB T = true → is = true → ∃ q D', e = .returned (pt q) ∧ Keep [] w w' ∧ Holds D' w' ∧ DExt w D D' ∧ xM D' q T s1)
theorem Xv (s : Sp) (w : World) : z8 Tryz.prog 174 [.agg #[it s.lo, it s.hi]] w (.bool (vX s)) := by
  unfold z8;have hfit : True := trivial;refine en Tryz.func174 rfl Tryz.ntmps174 zI (g [[1],[1,0]] ?_);refine WL.so (SO.box rfl rfl) rfl (zw fun b1 hb1 => ?_);refine g [[4],[5,2,1]] ?_;refine WL.part 6 rfl (fun g6 => ?_) (fun g6 => ?_)
  · try simp only [zq] at g6
    refine g [[7]] ?_;refine WL.part 13 rfl (fun g13 => ?_) (fun g13 => ?_)
    · try simp only [zq] at g13
      refine g [[5]] ?_;refine WL.part 18 rfl (fun g18 => ?_) (fun g18 => ?_)
      · try simp only [zq] at g18
        refine g [[4]] ?_;refine WL.ydg rfl (Yd.sub rfl rfl (wr64 ⟨by first | omega | (simp_all; omega), by first | omega | (simp_all; omega)⟩)) rfl (g [[6]] ?_);refine WP.ret1 rfl rfl rfl (RV.tmp rfl) (fun w hI => ⟨zb (by rw [Bool.eq_iff_iff]; simp_all [vX]; try omega), hI.keep⟩)
      try simp only [zq] at g18
      refine g [[11]] ?_;refine WP.ret1 rfl rfl rfl (RV.tmp rfl) (fun w hI => ⟨zb (by rw [Bool.eq_iff_iff]; simp_all [vX]; try omega), hI.keep⟩)
    try simp only [zq] at g13
    refine g [[16]] ?_;refine WP.ret1 rfl rfl rfl (RV.tmp rfl) (fun w hI => ⟨zb (by rw [Bool.eq_iff_iff]; simp_all [vX]; try omega), hI.keep⟩)
  try simp only [zq] at g6
  refine g [[23]] ?_;refine WP.ret1 rfl rfl rfl (RV.tmp rfl) (fun w hI => ⟨zb (by rw [Bool.eq_iff_iff]; simp_all [vX]; try omega), hI.keep⟩)
section
variable (T : Tks) (a1 : Option Addr)
include T a1
theorem yS (n1 c1 : Nat) (n : Int) (w : World) (hn : n1 = T.l.length) (hl : n1 ≤ 1000) : z8 Tryz.prog 117 [.agg #[it T.huts, .slice a1 n1 c1], it n] w (.bool (isT T n)) := by
  unfold z8;refine en Tryz.func117 rfl Tryz.ntmps117 zI (g [[1],[1,0,1]] ?_);refine WL.so (SO.box rfl rfl) rfl (zw fun b2 hb2 => ?_);refine g [[4],[6,4,2,1]] ?_;refine WL.cl rfl (fun w hI => xB _ _ _ _) (g [[4]] ?_);refine WP.ret1 rfl rfl rfl (RV.tmp rfl) (fun w hI => ⟨zb (by subst hn; rfl), hI.keep⟩)
theorem zed (c1 : Nat) (D : Imm) (b2 : Nat) (hR : TksR D T a1 T.l.length) (h2 : D b2 = some (boxT T (.slice a1 T.l.length c1))) (hv : tksB T = true) (w : World) (hH : Holds D w) (i j : Nat) (hi : i < T.l.length) (hj : j < T.l.length) : z8 Tryz.prog 176 [nt i, nt j, pt b2] w (it ((gt T.l i).hut - (gt T.l j).hut)) := by
  unfold z8;obtain ⟨⟨hh1, hh2⟩, hn5, hnum⟩ := y8 hv;have hx1 := (hnum i hi).1;have hx2 := (hnum j hj).1;refine en Tryz.func176 rfl Tryz.ntmps176 (Inv.start hH) (g [[1],[5,0,1,2],[0,5,0,1,2],[3012],[3]] ?_);refine WQ.q rfl (Yd.qt (Yd.ix rfl rfl (hR.tick.addr i (by omega)))) rfl (g [[1]] ?_);refine WQ.q rfl (Yd.qt (Yd.l1 rfl ((hR.tick.at i (by omega)).rd 2 rfl))) rfl (g [[3]] ?_);refine WQ.q rfl (Yd.qt (Yd.ix rfl rfl (hR.tick.addr i (by omega)))) rfl (g [[1]] ?_);refine WQ.q rfl (Yd.qt (Yd.l1 rfl ((hR.tick.at j (by omega)).rd 2 rfl))) rfl (g [[6]] ?_);refine WP.ret1 rfl rfl rfl (RV.tmp rfl) (fun w hI => ⟨rfl, hI.keep⟩)
theorem Ut (n1 c1 : Nat) (D : Imm) (w : World) (hR : TksR D T a1 n1) (hH : Holds D w) (is : Bool) : Calls Tryz.prog 88 (List.toArray [.agg #[it T.huts, .slice a1 n1 c1], .bool is]) w fun e w' => zdI T (.slice a1 n1 c1) is D w e w' := by
  obtain rfl := hR.tick.len';have hl1 := hR.len;refine en Tryz.func88 rfl Tryz.ntmps88 (Inv.start hH) (g [[1],[1,0,1]] ?_);refine WL.so (SO.box rfl rfl) rfl (zw fun b2 hb2 => ?_);refine g [[4],[3,4,2,1]] ?_;refine WL.cl rfl (fun w hI => xB _ _ _ _) (g [[1]] ?_);refine WL.part 12 rfl (fun g12 => ?_) (fun g12 => ?_)
  · have hh12 : 1 ≤ T.huts ∧ T.huts ≤ 4 := of_decide_eq_true g12;refine g [[5]] ?_;refine WL.part 17 rfl (fun g17 => ?_) (fun g17 => ?_)
    · try simp only [zq] at g17
      refine WL.cl rfl (fun w hI => xp _ _) (g [[3],[5,4,2,1],[3,5,4,2,1]] ?_);refine WL.so (SO.box rfl rfl) rfl (zw fun b21 hb21 => ?_);refine g [[5],[8,6,5,4,2,1]] ?_;refine WC.loop (fun y : Nat × Option Ow => [(1, .bool is), (2, pt b2), (5, .func (.func 174) #[] #[]), (6, pt b21), (23, .slice a1 T.l.length c1), (24, nt T.l.length), (25, nt y.1)]) (fun y => ((b21, offO T (.slice a1 T.l.length c1) (owV y.2 y.1)) :: (b2, boxT T (.slice a1 T.l.length c1)) :: owH y.2 3 ((List.range y.1).map nt) [])) (fun _ => D) (fun y => y.1 ≤ T.l.length ∧ owP w y.2 y.1 1 ∧ ∀ i, i < y.1 → vn T (gt T.l i) = true) (fun y => T.l.length - y.1) (0, none) ⟨by omega, rfl, by intro i hi; omega⟩ (fun a w h => y4 h ⟨rfl, rfl, rfl, rfl, rfl, rfl, rfl, trivial⟩) ?_;rintro ⟨k, o⟩ ⟨hk, ho, hd⟩;dsimp only at hk ho hd;refine g [[1],[5,1,2,5,6,23,24,25]] ?_;refine WC.cond rfl (fun c26 => ?_) (fun c26 => ?_)
      · try simp only [zq] at c26
        refine g [[5],[2,1,2,5,6,23,24,25]] ?_;refine WL.yd (Yd.ix rfl rfl (hR.tick.addr k (by omega))) rfl (WL.yd (Yd.lV [_, _, _, _, _] rfl ((hR.tick.at k (by omega)).rdn 0 5 rfl)) rfl ?_);refine WL.so (SO.alloc ZvF.h rfl) rfl (zw fun b8 hb8 => ?_);refine g [[5],[6,7,8,1,2,5,6,23,24,25]] ?_;refine WL.cl rfl (fun w hI => xB _ _ _ _) (g [[1]] ?_);refine WL.part 36 rfl (fun g36 => ?_) (fun g36 => ?_)
        · refine g [[3]] ?_;refine WL.sog rfl (SO.call (Enters.val CaF.h rfl rfl) (fun w hI => Xv ⟨_, _⟩ _)) rfl (zs (g [[2]] ?_));refine WL.part 42 rfl (fun g42 => ?_) (fun g42 => ?_)
          · refine g [[3]] ?_;refine WL.sog rfl (SO.call (Enters.val CaF.h rfl rfl) (fun w hI => Xv ⟨_, _⟩ _)) rfl (zs (g [[1]] ?_));refine WL.part 47 rfl (fun g47 => ?_) (fun g47 => ?_)
            · refine WL.cl rfl (fun w hI => xp _ _) (g [[2],[7,7,1,2,5,6,23,24,25]] ?_);refine WL.so (SO.buildSlice UnF.h SzF.h ZvF.h rfl rfl rfl rfl (cs := [_]) rfl) rfl ?_;rintro _ _ _ ⟨b55, hb55, rfl, rfl, rfl⟩;refine WL.so (SO.appendOw (o := o) (len := k) (n := 1) (xs := ((List.range k).map nt)) (size := 1) [_] [_, _, _] [] rfl rfl Tryz.underlying94 Tryz.sizeOf3 Tryz.typeInfo3 Tryz.zeroValue3 rfl rfl rfl rfl ⟨rfl, .inr ⟨_, _, _, rfl, RdN.own (k := 0) (n := 1) rfl rfl⟩⟩ (za rfl) ho (by simp) (by omega) (by show (2 * (_ + _) + 1000) * 8 ≤ 2 ^ 48; omega) (by omega)) rfl ?_;rintro _ _ _ ⟨u1, hu1, rfl, rfl, rfl⟩;refine g [[6],[4,1,2,5,6,23,24,25]] ?_;refine WP.again (⟨k + 1, some u1⟩ : Nat × Option Ow) ⟨by simp only; omega, hu1, zZ hd (by simp_all [vn, hutT, inB])⟩ (by simp only; omega) (fun aa ww h => ?_);have hrs : (List.range (k + 1)).map nt = (List.range k).map nt ++ [nt k] := by rw [List.range_succ, List.map_append]; rfl
              show At _ [(1, .bool is), (2, pt b2), (5, .func (.func 174) #[] #[]), (6, pt b21), (23, .slice a1 T.l.length c1), (24, nt T.l.length), (25, nt (k + 1))] D ((b21, offO T (.slice a1 T.l.length c1) (owV (some u1) (k + 1))) :: (b2, boxT T (.slice a1 T.l.length c1)) :: owH (some u1) 3 ((List.range (k + 1)).map nt) []) aa ww;rw [hrs];exact yi h ⟨rfl, rfl, rfl, rfl, rfl, rfl, rfl, trivial⟩ (fun _ h => List.mem_cons_of_mem _ h) (fun h => (List.nodup_cons.1 h).2)
            refine WL.nf rfl (fun w hI => xo _ _) (g [[6]] ?_);refine WP.panicBody rfl (fun w hI => ?_)
            have hno : tksB T = false := by
              cases hdb : tksB T with
              | false => rfl
              | true =>
                exfalso
                obtain ⟨h1, h2, h3⟩ := (yv T).1 hdb
                first | (simp_all [inB]; done) | (simp_all [inB]; omega) | exact Bool.noConfusion ((yC (h3 k (by omega))).1.symm.trans g36 : true = false) | exact Bool.noConfusion ((yC (h3 k (by omega))).2.1.symm.trans g42 : true = false) | exact Bool.noConfusion ((yC (h3 k (by omega))).2.2.symm.trans g47 : true = false)
            exact ⟨fun _ => ⟨rfl, hI.keep⟩, fun h => absurd (hno.symm.trans h) (by decide), fun h => absurd (hno.symm.trans h) (by decide)⟩
          refine g [[5]] ?_;refine WL.nf rfl (fun w hI => xo _ _) (g [[6]] ?_);refine WP.panicBody rfl (fun w hI => ?_)
          have hno : tksB T = false := by
            cases hdb : tksB T with
            | false => rfl
            | true =>
              exfalso
              obtain ⟨h1, h2, h3⟩ := (yv T).1 hdb
              first | (simp_all [inB]; done) | (simp_all [inB]; omega) | exact Bool.noConfusion ((yC (h3 k (by omega))).1.symm.trans g36 : true = false) | exact Bool.noConfusion ((yC (h3 k (by omega))).2.1.symm.trans g42 : true = false) | exact Bool.noConfusion ((yC (h3 k (by omega))).2.2.symm.trans g47 : true = false)
          exact ⟨fun _ => ⟨rfl, hI.keep⟩, fun h => absurd (hno.symm.trans h) (by decide), fun h => absurd (hno.symm.trans h) (by decide)⟩
        refine g [[11]] ?_;refine WL.nf rfl (fun w hI => xo _ _) (g [[6]] ?_);refine WP.panicBody rfl (fun w hI => ?_)
        have hno : tksB T = false := by
          cases hdb : tksB T with
          | false => rfl
          | true =>
            exfalso
            obtain ⟨h1, h2, h3⟩ := (yv T).1 hdb
            first | (simp_all [inB]; done) | (simp_all [inB]; omega) | exact Bool.noConfusion ((yC (h3 k (by omega))).1.symm.trans g36 : true = false) | exact Bool.noConfusion ((yC (h3 k (by omega))).2.1.symm.trans g42 : true = false) | exact Bool.noConfusion ((yC (h3 k (by omega))).2.2.symm.trans g47 : true = false)
        exact ⟨fun _ => ⟨rfl, hI.keep⟩, fun h => absurd (hno.symm.trans h) (by decide), fun h => absurd (hno.symm.trans h) (by decide)⟩
      try simp only [zq] at c26
      refine g [[6]] ?_;obtain rfl : k = T.l.length := by omega
      have hok : tksB T = true := (yv T).2 ⟨by simp_all [inB], by omega, hd⟩;refine g [[2,1,2,6]] ?_;refine WL.part 60 rfl (fun g60 => ?_) (fun g60 => ?_)
      · refine WL.cl rfl (fun w hI => xp _ _) (g [[3],[6,2,6]] ?_);refine WL.freezeK 1 rfl (fun hn2 => ?_);have hF2 := fun o => (DExt.refl w D).add (o := o) hn2 hb2;refine WL.so (SO.alters (own := [_]) (hpc := owH o 3 ((List.range T.l.length).map nt) []) (S1 := keys (owH o 3 ((List.range T.l.length).map nt) [])) (fun _ h => h) (fun h => h) (fun _ h => h) (fun _ h => h) (Enters.func CaF.h rfl) (fun w1 hI => zbd (yR (ZB T)) (List.range T.l.length) o T.l.length _ w1 w ⟨by simp, fun i hi => by rw [qk hi]; exact hi⟩ (by omega) ho 176 [pt b2] CaF.h (fun i j => (gt T.l i).hut - (gt T.l j).hut) (fun w' hH' i j hi hj => zed T a1 c1 _ b2 (hR.ext (hF2 _)) (Imm.add_self _ _ _) hok w' hH' i j hi hj) (fun i j _ _ => by unfold yR ZB; congr 1; apply propext; omega) hI)) rfl ?_;rintro _ _ _ ⟨_, _, ⟨rfl, rfl, rfl⟩, rfl⟩;refine g [[3],[1,6]] ?_;have hso : (wO (ZB T) T.l.length).length = T.l.length := xy _ _;refine WL.freezeOw (f := natC) (m := 1) Jq [_] [] o 3 (ordT T) rfl (by show owP w o (wO (ZB T) T.l.length).length 1; rw [hso]; exact ho) (by rw [zak]; rfl) (fun D2 hX2 hS2 => ?_);refine g [[5]] ?_
        refine WP.ret1 rfl rfl rfl (RV.tmp rfl) (fun w1 hI => ⟨fun h => absurd (hok.symm.trans h) (by decide), fun _ h => (by rw [g60] at h; cases h), fun _ _ => ⟨_, _, rfl, hI.keep, hI.freeze.imm, (((hF2 _).trans hX2 (Nat.le_refl _)).add (hI.apart _ _ (List.mem_of_getElem? (i := 0) rfl)) hb21), _, _, by rw [xg (wt ho)]; exact Imm.add_self _ _ _, by
          have h9 := hS2.ext ((DExt.refl w D2).add (o := offO T (.slice a1 T.l.length c1) (owV o T.l.length)) (hI.apart _ _ (List.mem_of_getElem? (i := 0) rfl)) hb21);rw [show (ordT T).length = T.l.length from hso] at h9;exact ⟨h9, zaV ho⟩⟩⟩)
      refine WL.nf rfl (fun w hI => xo _ _) (g [[1]] ?_);exact WP.panicBody rfl (fun w hI => ⟨fun h => absurd (hok.symm.trans h) (by decide), fun _ _ => ⟨rfl, hI.keep⟩, fun _ h => by rw [g60] at h; cases h⟩)
    try simp only [zq] at g17
    refine WL.nf rfl (fun w hI => xo _ _) (g [[1]] ?_);refine WP.panicBody rfl (fun w hI => ?_)
    have hno : tksB T = false := by
      cases hdb : tksB T with
      | false => rfl
      | true =>
        exfalso
        obtain ⟨h1, h2, h3⟩ := (yv T).1 hdb
        first | (simp_all [inB]; done) | (simp_all [inB]; omega) | exact Bool.noConfusion ((yC (h3 k (by omega))).1.symm.trans g36 : true = false) | exact Bool.noConfusion ((yC (h3 k (by omega))).2.1.symm.trans g42 : true = false) | exact Bool.noConfusion ((yC (h3 k (by omega))).2.2.symm.trans g47 : true = false)
    exact ⟨fun _ => ⟨rfl, hI.keep⟩, fun h => absurd (hno.symm.trans h) (by decide), fun h => absurd (hno.symm.trans h) (by decide)⟩
  refine g [[5]] ?_;refine WL.nf rfl (fun w hI => xo _ _) (g [[1]] ?_);refine WP.panicBody rfl (fun w hI => ?_)
  have hno : tksB T = false := by
    cases hdb : tksB T with
    | false => rfl
    | true =>
      exfalso
      obtain ⟨h1, h2, h3⟩ := (yv T).1 hdb
      first | (simp_all [inB]; done) | (simp_all [inB]; omega) | exact Bool.noConfusion ((yC (h3 k (by omega))).1.symm.trans g36 : true = false) | exact Bool.noConfusion ((yC (h3 k (by omega))).2.1.symm.trans g42 : true = false) | exact Bool.noConfusion ((yC (h3 k (by omega))).2.2.symm.trans g47 : true = false)
  exact ⟨fun _ => ⟨rfl, hI.keep⟩, fun h => absurd (hno.symm.trans h) (by decide), fun h => absurd (hno.symm.trans h) (by decide)⟩
end
theorem zdN : zj Tryz.prog 148 [.int .i64 0, .int .i64 0] [(0, 1), (1, 1)] := ⟨⟨_, Tryz.zeroValue148, rfl⟩, _, Tryz.underlying148, fun w => by simp [Tryz.sizeOf3]⟩
abbrev zbE := SaF.mk zdN
attribute [instance] zbE
section
variable (T : Tks) (a1 : Option Addr) (n1 c1 : Nat) (D : Imm) (w : World) (hR : TksR D T a1 n1) (hH : Holds D w)
include T a1 n1 c1 D w hR hH
theorem x4 (hv : tksB T = true) : y6 Tryz.prog 88 [.agg #[it T.huts, .slice a1 n1 c1], .bool true] w D (fun v D' => ∃ q, v = pt q ∧ xM D' q T (.slice a1 n1 c1)) :=
  (Ut T a1 n1 c1 D w hR hH true).mono fun e w' h => by
    obtain ⟨q, D', h1, h2, h3, h4, h5⟩ := h.2.2 hv rfl;exact ⟨_, D', h1, h2, h3, h4, q, rfl, h5⟩
theorem ZS (is : Bool) (hv : tksB T = false) : xC Tryz.prog 88 [.agg #[it T.huts, .slice a1 n1 c1], .bool is] w (jz 1) := (Ut T a1 n1 c1 D w hR hH is).mono fun e w' h => h.1 hv
theorem j2 (hv : tksB T = true) : xC Tryz.prog 88 [.agg #[it T.huts, .slice a1 n1 c1], .bool false] w (jz 2) := (Ut T a1 n1 c1 D w hR hH false).mono fun e w' h => h.2.1 hv rfl
end
def prV (p : Pr) : Value := .agg #[it p.1, it p.2]
theorem zaj {α β : Type} [Inhabited α] [Inhabited β] (l : List α) (f : α → List β) {i j : Nat} (hi : i < l.length) (hj : j < (f (gt l i)).length) : ((l.take i).flatMap f).length + j < (l.flatMap f).length ∧ gt (l.flatMap f) (((l.take i).flatMap f).length + j) = gt (f (gt l i)) j := by
  have hg : gt l i = l[i] := by simp [gt, List.getD, hi]
  have hsp : l = l.take i ++ l[i] :: l.drop (i + 1) := by rw [List.getElem_cons_drop]; exact (List.take_append_drop i l).symm
  have hfl : l.flatMap f = (l.take i).flatMap f ++ (f l[i] ++ (l.drop (i + 1)).flatMap f) := by
    conv => lhs; rw [hsp]
    rw [List.flatMap_append, List.flatMap_cons]
  rw [hg] at hj ⊢;rw [hfl];refine ⟨by simp only [List.length_append]; omega, ?_⟩;simp only [gt, List.getD];rw [List.getElem?_append_right (by omega), List.getElem?_append_left (by omega)];congr 2; omega
theorem Xo {lo hi : Int} {i : Nat} (h : i < (hi - lo + 1).toNat) : gt (rng lo hi) i = lo + (i : Int) := by
  simp [gt, rng, List.getD, h]
theorem wH (lo hi : Int) : (rng lo hi).length = (hi - lo + 1).toNat := by simp [rng]
def numP (x : Tick) : Nat := (x.bought.hi - x.bought.lo + 1).toNat
def mP (x : Tick) (i : Nat) : Nat := (x.door.hi - max (x.bought.lo + (i : Int)) x.door.lo + 1).toNat
def cntP (x : Tick) (i : Nat) : Nat := (((rng x.bought.lo x.bought.hi).take i).flatMap (xu x)).length
theorem Zr (x : Tick) (a : Int) : (xu x a).length = (x.door.hi - max a x.door.lo + 1).toNat := by simp [xu, wH]
theorem QW (x : Tick) (a : Int) {j : Nat} (h : j < (x.door.hi - max a x.door.lo + 1).toNat) : gt (xu x a) j = (a, max a x.door.lo + (j : Int)) := by
  simp [gt, xu, rng, List.getD, h]
theorem XO {x : Tick} {i j : Nat} (hi : i < numP x) (hj : j < mP x i) : cntP x i + j < (yb x).length ∧ gt (yb x) (cntP x i + j) = (x.bought.lo + (i : Int), max (x.bought.lo + (i : Int)) x.door.lo + (j : Int)) := by
  have hr := Xo (lo := x.bought.lo) (hi := x.bought.hi) hi;obtain ⟨h1, h2⟩ := zaj (rng x.bought.lo x.bought.hi) (xu x) (i := i) (j := j) (by rw [wH]; exact hi) (by rw [hr, Zr]; exact hj);refine ⟨h1, h2.trans ?_⟩;rw [hr, QW _ _ hj]
theorem QM {x : Tick} {i : Nat} (hi : i < numP x) : cntP x (i + 1) = cntP x i + mP x i := by
  have hl : i < (rng x.bought.lo x.bought.hi).length := by rw [wH]; exact hi
  have hr := Xo (lo := x.bought.lo) (hi := x.bought.hi) hi;have hg : gt (rng x.bought.lo x.bought.hi) i = (rng x.bought.lo x.bought.hi)[i] := by simp [gt, List.getD, hl]
  unfold cntP;rw [List.take_succ_eq_append_getElem hl, List.flatMap_append, List.length_append, ← hg, hr];simp only [List.flatMap_cons, List.flatMap_nil, List.append_nil, Zr];rfl
theorem za7 (x : Tick) : cntP x (numP x) = (yb x).length := by
  unfold cntP yb;rw [List.take_of_length_le (by rw [wH]; exact Nat.le_refl _)]
theorem YO (x : Tick) (b5 : Nat) (D : Imm) (w : World) (hx : 0 ≤ x.bought.lo ∧ x.bought.lo ≤ x.bought.hi ∧ x.bought.hi ≤ 240 ∧ 0 ≤ x.door.lo ∧ x.door.lo ≤ x.door.hi ∧ x.door.hi ≤ 240) (h5 : D b5 = some (.cells (List.toArray (yc x)) 41 (0, 0))) : V9 Tryz.prog 240 [pt b5] (yb x).length (fun k => prV (gt (yb x) k)) D w := by
  unfold V9;intro l St Sp hSm hround h0 hS0 hI0;unfold zp;obtain ⟨hx1, hx2, hx3, hx4, hx5, hx6⟩ := hx;refine en Tryz.func240 rfl Tryz.ntmps240 hI0 (g [[1],[8,0,1]] ?_);refine WC.loop (fun y : Nat × Imm × Hp => [(0, .func (.yield l) #[] #[]), (1, pt b5), (3, it (x.bought.lo + ((y.1 : Nat) : Int)))]) (fun y => y.2.2) (fun y => y.2.1) (fun y => y.1 ≤ numP x ∧ DExt w D y.2.1 ∧ St (cntP x y.1) y.2.1 y.2.2) (fun y => numP x - y.1) ⟨0, D, h0⟩ ⟨by omega, DExt.refl _ _, hS0⟩ (fun a w h => y4 h ⟨rfl, rfl, by show some (it _) = some (it _); congr 2; push_cast; omega, trivial⟩) ?_;rintro ⟨i, D1, h1⟩ ⟨hi, hX1, hS1⟩;dsimp only at hi hX1 hS1;refine g [[2],[4,0,1,3]] ?_;refine WL.yd (Yd.l1 rfl (Rd.imm (hX1.old _ _ h5) rfl)) rfl (g [[3]] ?_);refine WC.cond rfl (fun c12 => ?_) (fun c12 => ?_)
  · try simp only [zq] at c12
    have hiN : i < numP x := by unfold numP; omega
    refine g [[5],[4,0,1,3]] ?_;refine WL.yd (Yd.l1 rfl (Rd.imm (hX1.old _ _ h5) rfl)) rfl (WL.yd (Yd.max2 rfl rfl) rfl (g [[4]] ?_));refine WC.loop (fun y : Nat × Imm × Hp => [(0, .func (.yield l) #[] #[]), (1, pt b5), (3, it (x.bought.lo + (i : Int))), (4, it (max (x.bought.lo + (i : Int)) x.door.lo + ((y.1 : Nat) : Int)))]) (fun y => y.2.2) (fun y => y.2.1) (fun y => y.1 ≤ mP x i ∧ DExt w D y.2.1 ∧ St (cntP x i + y.1) y.2.1 y.2.2) (fun y => mP x i - y.1) ⟨0, D1, h1⟩ ⟨by omega, hX1, hS1⟩ (fun a w h => y4 h ⟨rfl, rfl, rfl, by show some (it _) = some (it _); congr 2; push_cast; omega, trivial⟩) ?_;rintro ⟨j, D2, h2⟩ ⟨hj, hX2, hS2⟩;dsimp only at hj hX2 hS2;refine g [[2],[4,0,1,3,4]] ?_;refine WL.yd (Yd.l1 rfl (Rd.imm (hX2.old _ _ h5) rfl)) rfl (g [[3]] ?_);refine WC.cond rfl (fun c24 => ?_) (fun c24 => ?_)
    · try simp only [zq] at c24
      have hjM : j < mP x i := by unfold mP; omega
      refine g [[5],[0,0,1,3,4]] ?_;refine WC.ofF (g [[5]] ?_);refine WLF.yieldN (l := l) (vals := [prV (x.bought.lo + (i : Int), max (x.bought.lo + (i : Int)) x.door.lo + (j : Int))]) [] h2 (fun _ h => h) (fun h => h) rfl rfl rfl (fun w' hsz hI => by rw [← (XO hiN hjM).2]; exact hround (cntP x i + j) D2 h2 w' (XO hiN hjM).1 hsz hX2 hS2 hI) ?_;rintro b31 D5 hp5 hK5 hX5;refine g [[3]] ?_;refine WC.cond rfl (fun c32 => ?_) (fun c32 => ?_)
      · try simp only [zq] at c32
        refine g [[9]] ?_
        refine WP.ret0 rfl rfl rfl  (fun w1 hI => by
          obtain ⟨htt, _⟩ | ⟨_, hK5⟩ := hK5
          · simp_all
          exact ⟨_, D5, hp5, rfl, hX2.trans hX5 (Nat.le_refl _), hI, .inr hK5⟩)
      try simp only [zq] at c32
      refine g [[3],[5,0,1,3,4]] ?_;obtain ⟨_, hK5⟩ | ⟨hff, _⟩ := hK5
      · refine WP.again (⟨j + 1, D5, hp5⟩ : Nat × Imm × Hp) ⟨by simp only; omega, hX2.trans hX5 (Nat.le_refl _), hK5⟩ (by simp only; omega) (fun a w h => y4 h ⟨rfl, rfl, rfl, by show some (it _) = some (it _); congr 2; push_cast; omega, trivial⟩)
      simp_all
    try simp only [zq] at c24
    obtain rfl : j = mP x i := by unfold mP at hj ⊢; omega
    refine g [[6],[5,0,1,3]] ?_;exact WP.again (⟨i + 1, D2, h2⟩ : Nat × Imm × Hp) ⟨by simp only; omega, hX2, by simp only; rw [QM hiN]; exact hS2⟩ (by simp only; omega) (fun a w h => y4 h ⟨rfl, rfl, by show some (it _) = some (it _); congr 2; push_cast; omega, trivial⟩)
  try simp only [zq] at c12
  obtain rfl : i = numP x := by unfold numP at hi ⊢; omega
  refine g [[4]] ?_;refine WP.ret0 rfl rfl rfl  (fun w1 hI => ⟨_, D1, h1, rfl, hX1, hI, .inl (by rw [← za7]; exact hS1)⟩)
def truC (t : Tru) : List Value := [it (t 0).1, it (t 0).2, it (t 1).1, it (t 1).2, it (t 2).1, it (t 2).2, it (t 3).1, it (t 3).2, it (t 4).1, it (t 4).2]
def truV (t : Tru) : Value := .agg (truC t).toArray
theorem YX (t : Tru) {i : Nat} (hi : i < 5) (p : Pr) : splice (truC t) (0 + i * 2) [it p.1, it p.2] = truC (upd t i p) := by
  rcases (show i = 0 ∨ i = 1 ∨ i = 2 ∨ i = 3 ∨ i = 4 by omega) with rfl | rfl | rfl | rfl | rfl <;> rfl
theorem uq (t : Tru) {i : Nat} (hi : i < 5) : (truC t)[0 + i * 2]? = some (it (t i).1) ∧ (truC t)[0 + i * 2 + 1]? = some (it (t i).2) := by
  rcases (show i = 0 ∨ i = 1 ∨ i = 2 ∨ i = 3 ∨ i = 4 by omega) with rfl | rfl | rfl | rfl | rfl <;> exact ⟨rfl, rfl⟩
theorem zdm (t : Tru) (i : Nat) (p : Pr) (hi : i < 5) (w : World) : z8 Tryz.prog 179 [truV t, nt i, prV p] w (truV (upd t i p)) := by
  unfold z8;refine en Tryz.func179 rfl Tryz.ntmps179 zI (g [[1],[1,0,1,2]] ?_);refine WL.so (SO.box rfl rfl) rfl (zw fun b3 hb3 => ?_);refine WL.so (SO.box rfl rfl) rfl (zw fun b5 hb5 => ?_);refine WL.so (SO.alloc ZvF.h rfl) rfl (zw fun b6 hb6 => ?_);refine g [[3],[3,6,5,3,1]] ?_;refine WL.yd (Yd.indexA UnF.h SzF.h rfl rfl (by omega) (by omega)) rfl ?_;refine WL.so (SO.store 2 rfl SzF.h rfl rfl rfl rfl (by show 0 + i * 2 + 2 ≤ 10; omega) (za rfl)) rfl (zt (g [[3],[1,6,3]] ?_));rw [show splice (truC t) (0 + (i : Int).toNat * 2) [it p.1, it p.2] = truC (upd t i p) from YX t hi p];refine g [[5]] ?_;refine WP.ret1 rfl rfl rfl (RV.cellN AgF.h SzF.h rfl (vs := [_, _, _, _, _, _, _, _, _, _]) rfl (RdN.own (k := 0) (n := 10) rfl rfl)) (fun w hI => ⟨rfl, hI.keep⟩)
theorem zaX (T : Tks) (a1 : Option Addr) (n1 c1 : Nat) (q : Nat) (D : Imm) (w : World) (hO : xM D q T (.slice a1 n1 c1)) (hR : TksR D T a1 n1) (hH : Holds D w) (i : Nat) (hi : i < T.l.length) : y6 Tryz.prog 180 [pt q, nt i] w D (fun v D' => ∃ b, v = .func (.func 240) #[] #[pt b] ∧ D' b = some (.cells (List.toArray (yc (gt T.l i))) 41 (0, 0))) := by
  unfold y6;obtain rfl := hR.tick.len';have hl1 := hR.len;obtain ⟨a3, c3, hq, hS3, hc3⟩ := hO;refine en Tryz.func180 rfl Tryz.ntmps180 (Inv.start hH) (g [[1],[5,0,1],[7,4,0,1]] ?_);refine WL.yd (Yd.ix rfl rfl (hR.tick.addr i (by omega))) rfl (WL.yd (Yd.lV [_, _, _, _, _] rfl ((hR.tick.at i (by omega)).rdn 0 5 rfl)) rfl ?_);refine WL.so (SO.alloc ZvF.h rfl) rfl (zw fun b5 hb5 => ?_);refine g [[4],[6,5,4]] ?_;refine WP.ret1 rfl rfl rfl (RV.tmp rfl) (fun w1 hI => ⟨_, _, rfl, hI.keep, hI.freeze.imm, (DExt.refl w D).add (hI.apart _ _ (List.mem_of_getElem? (i := 0) rfl)) hb5, b5, rfl, Imm.add_self _ _ _⟩)
theorem we (q : Nat) (D : Imm) (w : World) (hH : Holds D w) : y6 Tryz.prog 90 [pt q] w D (fun v D' => ∃ b, v = .func (.func 177) #[] #[pt b] ∧ D' b = some (.cells (List.toArray [pt q]) 141 (0, 0))) := by
  unfold y6;refine en Tryz.func90 rfl Tryz.ntmps90 (Inv.start hH) (g [[1],[1,0]] ?_);refine WL.so (SO.box rfl rfl) rfl (zw fun b1 hb1 => ?_);refine g [[4],[6,2,1]] ?_;refine WP.ret1 rfl rfl rfl (RV.tmp rfl) (fun w1 hI => ⟨_, _, rfl, hI.keep, hI.freeze.imm, (DExt.refl w D).add (hI.apart _ _ (List.mem_of_getElem? (i := 0) rfl)) hb1, b1, rfl, Imm.add_self _ _ _⟩)
def PartOf {α : Type} (A L : List α) (k : Nat) : Prop := ∃ pre post, A = pre ++ (L ++ post) ∧ pre.length = k
theorem PartOf.at {α : Type} [Inhabited α] {A L : List α} {k : Nat} (h : PartOf A L k) (j : Nat) (hj : j < L.length) : gt A (k + j) = gt L j ∧ k + j < A.length := by
  obtain ⟨pre, post, rfl, rfl⟩ := h;refine ⟨?_, by simp only [List.length_append]; omega⟩;simp only [gt, List.getD];rw [List.getElem?_append_right (by omega), List.getElem?_append_left (by omega)];congr 2; omega
theorem PartOf.step {α β : Type} [Inhabited α] {A : List β} {l : List α} {f : α → List β} {k i : Nat} (h : PartOf A (l.flatMap f) k) (hi : i < l.length) : PartOf A (f (gt l i)) (k + ((l.take i).flatMap f).length) := by
  obtain ⟨pre, post, rfl, rfl⟩ := h;have hg : gt l i = l[i] := by simp [gt, List.getD, hi]
  have hsp : l = l.take i ++ l[i] :: l.drop (i + 1) := by rw [List.getElem_cons_drop]; exact (List.take_append_drop i l).symm
  have hfl : l.flatMap f = (l.take i).flatMap f ++ (f l[i] ++ (l.drop (i + 1)).flatMap f) := by
    conv => lhs; rw [hsp]
    rw [List.flatMap_append, List.flatMap_cons]
  refine ⟨pre ++ (l.take i).flatMap f, (l.drop (i + 1)).flatMap f ++ post, ?_, by simp⟩;rw [hfl, hg]; simp [List.append_assoc]
theorem jh {α β : Type} [Inhabited α] {l : List α} (f : α → List β) {i : Nat} (hi : i < l.length) : ((l.take (i + 1)).flatMap f).length = ((l.take i).flatMap f).length + (f (gt l i)).length := by
  have hg : gt l i = l[i] := by simp [gt, List.getD, hi]
  rw [List.take_succ_eq_append_getElem hi, List.flatMap_append, List.length_append, hg];simp
def onP (T : Tks) (ord : List Nat) (rem : Nat) (t : Tru) (at_ : Nat) (p : Pr) : List Tru := if u5 T ord t at_ (gt ord at_) p then truL T ord rem (upd t (gt ord at_) p) (at_ + 1) else []
theorem Y6 (T : Tks) (ord : List Nat) (rem : Nat) (t : Tru) (at_ : Nat) : truL T ord (rem + 1) t at_ = (yb (gt T.l (gt ord at_))).flatMap (onP T ord rem t at_) := rfl
def okTr (t : Tru) : Prop := ∀ i, (0 ≤ (t i).1 ∧ (t i).1 ≤ 240) ∧ 0 ≤ (t i).2 ∧ (t i).2 ≤ 240
theorem Uo : okTr V3 := fun i => by simp [V3]
theorem Jt {t : Tru} (h : okTr t) (i : Nat) {p : Pr} (hp : (0 ≤ p.1 ∧ p.1 ≤ 240) ∧ 0 ≤ p.2 ∧ p.2 ≤ 240) : okTr (upd t i p) := fun j => by
  unfold upd; split
  · exact hp
  exact h j
def onN (T : Tks) (ord : List Nat) (rem : Nat) (t : Tru) (at_ k : Nat) : Nat := (((yb (gt T.l (gt ord at_))).take k).flatMap (onP T ord rem t at_)).length
section
variable {T : Tks} {ord : List Nat}
include T ord
theorem Yx {t : Tru} {at_ i : Nat} {p : Pr} {j : Nat} (hj : j < at_) (h : qD T t (gt ord j) i p = true) : u5 T ord t at_ i p = false := by
  cases hf : u5 T ord t at_ i p with
  | false => rfl
  | true =>
    have := List.all_eq_true.1 hf j (List.mem_range.2 hj);rw [h] at this; cases this
theorem VP {t : Tru} {at_ i : Nat} {p : Pr} (h : ∀ j, j < at_ → qD T t (gt ord j) i p = false) : u5 T ord t at_ i p = true := by
  unfold u5;rw [List.all_eq_true];intro j hj;rw [h j (List.mem_range.1 hj)]; rfl
section
variable {rem : Nat} {t : Tru} {at_ k : Nat} (hk : k < (yb (gt T.l (gt ord at_))).length)
include rem t at_ k hk
theorem Jv (h : u5 T ord t at_ (gt ord at_) (gt (yb (gt T.l (gt ord at_))) k) = false) : onN T ord rem t at_ (k + 1) = onN T ord rem t at_ k := by
  unfold onN;rw [jh _ hk];unfold onP;rw [if_neg (by rw [h]; simp)];rfl
theorem zcK (h : u5 T ord t at_ (gt ord at_) (gt (yb (gt T.l (gt ord at_))) k) = true) :
    onN T ord rem t at_ (k + 1) = onN T ord rem t at_ k + (truL T ord rem (upd t (gt ord at_) (gt (yb (gt T.l (gt ord at_))) k)) (at_ + 1)).length := by
  unfold onN;rw [jh _ hk];congr 1;unfold onP;rw [if_pos h]
end
theorem Ju {rem : Nat} {t : Tru} {at_ k k0 : Nat} {A : List Tru} (hA : PartOf A (truL T ord (rem + 1) t at_) k0) (hk : k < (yb (gt T.l (gt ord at_))).length) (h : u5 T ord t at_ (gt ord at_) (gt (yb (gt T.l (gt ord at_))) k) = true) :
    PartOf A (truL T ord rem (upd t (gt ord at_) (gt (yb (gt T.l (gt ord at_))) k)) (at_ + 1)) (k0 + onN T ord rem t at_ k) := by
  rw [Y6] at hA;have := hA.step hk;unfold onP at this;rw [if_pos h] at this;exact this
theorem zaO {rem : Nat} {t : Tru} {at_ : Nat} : onN T ord rem t at_ (yb (gt T.l (gt ord at_))).length = (truL T ord (rem + 1) t at_).length := by
  unfold onN;rw [Y6, List.take_length]
end
section
variable (T : Tks) (a1 : Option Addr) (n1 c1 : Nat) (q b1 b2 b3 ly : Nat) (St : Nat → Imm → Hp → Prop) (Sp : Imm → Hp → Prop) (w0 : World) (A : List Tru) (hv : tksB T = true)
include T a1 n1 c1 q b1 b2 b3 ly St Sp w0 A hv
theorem on_0 
    (hSm : ∀ k D1 D2 h, DExt w0 D1 D2 → St k D1 h → St k D2 h)
    (DD : Imm) (hround : ∀ k D' h w', k < A.length → w0.heap.size ≤ w'.heap.size → DExt w0 DD D' → St k D' h → Inv D' h (keys h) w' w' → YieldAt Fence.wide 0 Tryz.prog ly #[truV (gt A k)] w' (xV w' D' (keys h) (fun b D'' h' => (b = true ∧ St (k + 1) D'' h') ∨ (b = false ∧ Sp D'' h')))) : ∀ (t : Tru) (at_ k0 : Nat) (D : Imm) (w : World) (h0 : Hp), at_ + 0 = T.l.length → PartOf A (truL T (ordT T) 0 t at_) k0 → okTr t → w0.heap.size ≤ w.heap.size → DExt w0 DD D → xM D q T (.slice a1 n1 c1) → TksR D T a1 n1 → D b1 = some (.cells (List.toArray [pt q]) 141 (0, 0)) → D b2 = some (.cells (List.toArray [.func (.yield ly) #[] #[]]) 253 (0, 0)) → D b3 = some (.cells (List.toArray [.func (.func 178) #[] #[pt b1, pt b2, pt b3]]) 254 (0, 0)) → St k0 D h0 → Inv D h0 (keys h0) w w → zp Tryz.prog 178 [truV t, nt at_, pt b1, pt b2, pt b3] w D (keys h0) (fun v D' h' => ∃ b, v = .bool b ∧ ((b = true ∧ St (k0 + (truL T (ordT T) 0 t at_).length) D' h') ∨ (b = false ∧ Sp D' h'))) := by
  intro t at_ k0 D w h0 hin hpart hoT hsw hXX hO hR h1 h2 h3 hS0 hI0;obtain rfl := hR.tick.len';have hl1 := hR.len;have h5 := (y8 hv).2.1;obtain ⟨a3, c3, hq, hS3, hc3⟩ := hO;unfold zp;refine en Tryz.func178 rfl Tryz.ntmps178 hI0 (g [[1],[1,0,1,2,3,4]] ?_);refine WL.so (SO.box rfl rfl) rfl (zw fun b5 hb5 => ?_);refine WL.so (SO.box rfl rfl) rfl (zw fun b6 hb6 => ?_);refine WL.so (SO.alloc ZvF.h rfl) rfl (zw fun b7 hb7 => ?_);refine g [[2]] ?_;refine WC.scope (g [[2],[0,7,6,5,2,3,4],[3006],[10]] ?_);refine WC.cond rfl (fun c19 => ?_) (fun c19 => ?_)
  · try simp only [zq] at c19
    have hkA := hpart.at 0 (by exact Nat.zero_lt_one);have hgA : gt A k0 = t := hkA.1;refine g [[1],[0,7,6,5,2,3,4]] ?_;refine WC.ofF (g [[3]] ?_);refine WLF.yieldN (l := ly) (vals := [truV t]) [_, _, _] h0 (fun _ h => h) (fun h => h) rfl rfl rfl (fun w' hsz hI => by rw [← hgA]; exact hround k0 D h0 w' hkA.2 (Nat.le_trans hsw hsz) hXX hS0 hI) ?_;rintro b22 D5 hp5 hK5 hX5;refine g [[5]] ?_;refine WP.scRet ?_
    refine WP.ret1 rfl rfl rfl (RV.cell1 AgF.h rfl (Rd.own (k := 0) rfl rfl)) (fun w1 hI => by
      rcases hK5 with ⟨rfl, hK5⟩ | ⟨rfl, hK5⟩
      · exact ⟨_, D5, hp5, rfl, hX5, hI.drop 3, true, rfl, .inl ⟨rfl, hK5⟩⟩
      exact ⟨_, D5, hp5, rfl, hX5, hI.drop 3, false, rfl, .inr ⟨rfl, hK5⟩⟩)
  try simp only [zq] at c19
  omega
theorem on_s 
    (hSm : ∀ k D1 D2 h, DExt w0 D1 D2 → St k D1 h → St k D2 h)
    (DD : Imm) (hround : ∀ k D' h w', k < A.length → w0.heap.size ≤ w'.heap.size → DExt w0 DD D' → St k D' h → Inv D' h (keys h) w' w' → YieldAt Fence.wide 0 Tryz.prog ly #[truV (gt A k)] w' (xV w' D' (keys h) (fun b D'' h' => (b = true ∧ St (k + 1) D'' h') ∨ (b = false ∧ Sp D'' h')))) (rem : Nat) (ih : ∀ (t : Tru) (at_ k0 : Nat) (D : Imm) (w : World) (h0 : Hp), at_ + rem = T.l.length → PartOf A (truL T (ordT T) rem t at_) k0 → okTr t → w0.heap.size ≤ w.heap.size → DExt w0 DD D → xM D q T (.slice a1 n1 c1) → TksR D T a1 n1 → D b1 = some (.cells (List.toArray [pt q]) 141 (0, 0)) → D b2 = some (.cells (List.toArray [.func (.yield ly) #[] #[]]) 253 (0, 0)) → D b3 = some (.cells (List.toArray [.func (.func 178) #[] #[pt b1, pt b2, pt b3]]) 254 (0, 0)) → St k0 D h0 → Inv D h0 (keys h0) w w → zp Tryz.prog 178 [truV t, nt at_, pt b1, pt b2, pt b3] w D (keys h0) (fun v D' h' => ∃ b, v = .bool b ∧ ((b = true ∧ St (k0 + (truL T (ordT T) rem t at_).length) D' h') ∨ (b = false ∧ Sp D' h')))) : ∀ (t : Tru) (at_ k0 : Nat) (D : Imm) (w : World) (h0 : Hp), at_ + (rem + 1) = T.l.length → PartOf A (truL T (ordT T) (rem + 1) t at_) k0 → okTr t → w0.heap.size ≤ w.heap.size → DExt w0 DD D → xM D q T (.slice a1 n1 c1) → TksR D T a1 n1 → D b1 = some (.cells (List.toArray [pt q]) 141 (0, 0)) → D b2 = some (.cells (List.toArray [.func (.yield ly) #[] #[]]) 253 (0, 0)) → D b3 = some (.cells (List.toArray [.func (.func 178) #[] #[pt b1, pt b2, pt b3]]) 254 (0, 0)) → St k0 D h0 → Inv D h0 (keys h0) w w → zp Tryz.prog 178 [truV t, nt at_, pt b1, pt b2, pt b3] w D (keys h0) (fun v D' h' => ∃ b, v = .bool b ∧ ((b = true ∧ St (k0 + (truL T (ordT T) (rem + 1) t at_).length) D' h') ∨ (b = false ∧ Sp D' h'))) := by
  intro t at_ k0 D w h0 hin hpart hoT hsw hXX hO hR h1 h2 h3 hS0 hI0;obtain rfl := hR.tick.len';have hl1 := hR.len;have h5 := (y8 hv).2.1;obtain ⟨a3, c3, hq, hS3, hc3⟩ := hO;unfold zp;refine enM Tryz.func178 rfl Tryz.ntmps178 hI0 (g [[1],[1,0,1,2,3,4]] ?_);refine WL.so (SO.box rfl rfl) rfl (zw fun b5 hb5 => ?_);refine WL.so (SO.box rfl rfl) rfl (zw fun b6 hb6 => ?_);refine WL.so (SO.alloc ZvF.h rfl) rfl (zw fun b7 hb7 => ?_);refine g [[2]] ?_;refine WC.scope (g [[2],[0,7,6,5,2,3,4],[3006],[10]] ?_);refine WC.cond rfl (fun c19 => ?_) (fun c19 => ?_)
  · try simp only [zq] at c19
    omega
  try simp only [zq] at c19
  have hat : at_ < T.l.length := by omega
  have hi : (gt (ordT T) at_) < T.l.length := qw _ _ hat;have hi5 : (gt (ordT T) at_) < 5 := by omega
  have hnum := (y8 hv).2.2 _ hi;obtain ⟨hh, hpb, hpd⟩ := hnum;refine g [[3],[0,7,6,5,2,4]] ?_;refine WC.drawD _ (pz [1,3,5,7,9,11,13,14,16]) zk zk zX zHl (g [[5]] ?_);refine WA.yd rfl (Yd.ix rfl rfl (hS3.addr at_ (by omega))) rfl (WA.yd rfl (Yd.l1 rfl ((hS3.at at_ (by omega)).rd 0 rfl)) rfl ?_);refine WA.so rfl (SO.alloc ZvF.h rfl) rfl ?_;rintro _ _ _ ⟨b8, hb8, rfl, rfl, rfl⟩;refine ⟨fun _ hI => hI.tail, ?_⟩;refine WA.so rfl (SO.store 0 rfl SzF.h rfl rfl rfl rfl (zqb rfl) (za rfl)) rfl ?_;rintro _ _ _ ⟨rfl, rfl, rfl⟩;refine ⟨fun _ hI => hI.drop 1, ?_⟩;refine g [[3],[3,8,7,6,5,2,4]] ?_;refine WL.so (SO.alloc ZvF.h rfl) rfl (zw fun b9 hb9 => ?_);refine g [[4]] ?_;refine WC.label (g [[3],[3,9,8,7,6,5,2,4]] ?_);refine WL.so (SO.makes (Enters.func Tryz.call180 rfl) (fun w hI => zaX T a1 _ c1 q D _ ⟨a3, c3, hq, hS3, hc3⟩ hR hI.imm (gt (ordT T) at_) hi)) rfl ?_;rintro _ D2 _ ⟨hX2, ⟨bp, rfl, hbp⟩, rfl⟩;replace hXX := hXX.trans (hX2) hsw;replace hR := hR.ext (hX2);replace hq := (hX2).old _ _ hq;replace hS3 := hS3.ext (hX2);replace h1 := (hX2).old _ _ h1;replace h2 := (hX2).old _ _ h2;replace h3 := (hX2).old _ _ h3;refine g [[3],[0,2,4,5,6,7,8,9,34]] ?_;refine WC.rangeIterN (N := (yb (gt T.l (gt (ordT T) at_))).length) (arg := fun k => prV (gt (yb (gt T.l (gt (ordT T) at_))) k)) (fun w1 _ hD1 => YO (gt T.l (gt (ordT T) at_)) bp D2 w1 (by omega) hbp) rfl Tryz.call240 rfl (fun k D' h => ∃ hG, h = ((b9, .cells (List.toArray [.func (.func 179) #[truV t] #[]]) 255 (0, 0)) :: (b8, .cells (List.toArray [nt (gt (ordT T) at_)]) 3 (0, 0)) :: (b7, .cells (List.toArray [.bool false]) 4 (0, 0)) :: (b6, .cells (List.toArray [nt at_]) 3 (0, 0)) :: (b5, .cells (List.toArray (truC t)) 150 (0, 0)) :: hG) ∧ St (k0 + onN T (ordT T) rem t at_ k) D' hG) (fun c D' h => c = .ret ∧ ∃ hG, h = ((b9, .cells (List.toArray [.func (.func 179) #[truV t] #[]]) 255 (0, 0)) :: (b8, .cells (List.toArray [nt (gt (ordT T) at_)]) 3 (0, 0)) :: (b7, .cells (List.toArray [.bool false]) 4 (0, 0)) :: (b6, .cells (List.toArray [nt at_]) 3 (0, 0)) :: (b5, .cells (List.toArray (truC t)) 150 (0, 0)) :: hG) ∧ Sp D' hG) (fun k D1 D2 h hx ⟨hG, e, hs⟩ => ⟨hG, e, hSm _ _ _ _ (hx.wide hsw) hs⟩) ⟨h0, rfl, hSm _ _ _ _ (hX2.wide hsw) hS0⟩ ?_ ?_ ?_
  · rintro rec1 l1 Dn0 k D3 _ w1 hrec hk ⟨hG, rfl, hSG⟩ hX3 hsz;unfold yP;replace hXX := hXX.trans (hX3) hsw;replace hR := hR.ext (hX3);replace hq := (hX3).old _ _ hq;replace hS3 := hS3.ext (hX3);replace h1 := (hX3).old _ _ h1;replace h2 := (hX3).old _ _ h2;replace h3 := (hX3).old _ _ h3;have hpp0 := ug.1 (qY.1 (yE hk));have hpp : (0 ≤ (gt (yb (gt T.l (gt (ordT T) at_))) k).1 ∧ (gt (yb (gt T.l (gt (ordT T) at_))) k).1 ≤ 240) ∧ 0 ≤ (gt (yb (gt T.l (gt (ordT T) at_))) k).2 ∧ (gt (yb (gt T.l (gt (ordT T) at_))) k).2 ≤ 240 := by omega
    refine g [[1,35,2,4,5,6,7,8,9]] ?_;refine WLF.so (zn rfl) (SO.alloc ZvF.h rfl) rfl (zw fun b10 hb10 => ?_);refine g [[2]] ?_;refine WP.iterBegin 1 rfl hrec (g [[3],[0,10,2,4,5,6,7,8,9]] ?_);refine WCF.drawH _ zk zk (noLets.then (noLets.then (noLets.blk noLets.round))) zHl (g [[1000],[1001],[1002],[1003],[1004]] ?_);refine WH.yd (i := 5) zk zX rfl (Yd.sliceTo (h := at_) Tryz.underlying94 Tryz.sizeOf3 rfl rfl (by omega)) rfl (g [[1006],[1007]] ?_);refine WH.nil zk (g [[2]] ?_);refine WCF.loopF (fun j : Nat => [(2, pt b1), (4, pt b3), (5, pt b5), (6, pt b6), (7, pt b7), (8, pt b8), (9, pt b9), (10, pt b10), (41, .slice a3 at_ c3), (42, nt at_), (43, nt j)]) (fun j => j ≤ at_ ∧ ∀ i, i < j → qD T t (gt (ordT T) i) (gt (ordT T) at_) (gt (yb (gt T.l (gt (ordT T) at_))) k) = false) (fun j => at_ - j) 0 ⟨by omega, by intro i hi; omega⟩ (by exact ⟨rfl, rfl, rfl, rfl, rfl, rfl, rfl, rfl, rfl, rfl, rfl, trivial⟩) ?_;intro j ⟨hj, hcl⟩;refine g [[1],[5,2,4,5,6,7,8,9,10,41,42,43]] ?_;refine WCF.cond rfl (fun c44 => ?_) (fun c44 => ?_)
    · try simp only [zq] at c44
      have hjl : gt (ordT T) j < T.l.length := qw _ _ (by omega);have hj5 : gt (ordT T) j < 5 := by omega
      have hbt := hoT (gt (ordT T) j);refine g [[5],[1,2,4,5,6,7,8,9,10,41,42,43]] ?_;refine WLF.yd (zn rfl) (Yd.ix rfl rfl (hS3.addr j (by omega))) rfl (WLF.yd (zn rfl) (Yd.l1 rfl ((hS3.at j (by omega)).rd 0 rfl)) rfl (g [[4],[0,12,2,4,5,6,7,8,9,10,41,42,43]] ?_));refine WCF.tail 26 [0, 1, 2, 3, 4, 5, 6, 7, 8, 9, 10, 11, 12, 13, 14, 15, 16, 17, 18, 19, 20, 21, 22, 23, 24, 25] rfl zk zk (noLets.then (noLets.blk (noLets.then (noLets.then (noLets.blk (noLets.then (noLets.blk noLets.round))))))) (g [[6]] ?_);refine WQ.q rfl (Yd.qt (Yd.ix rfl rfl (hR.tick.addr (gt (ordT T) j) hjl))) rfl (g [[1]] ?_);refine WQ.q rfl (Yd.qt (Yd.l1 rfl ((hR.tick.at (gt (ordT T) j) hjl).rd 2 rfl))) rfl (g [[6]] ?_);refine WQ.q rfl (Yd.qt (Yd.ix rfl rfl (hR.tick.addr (gt (ordT T) j) hjl))) rfl (g [[1]] ?_);refine WQ.q rfl (Yd.qt (Yd.l1 rfl ((hR.tick.at (gt (ordT T) at_) hi).rd 2 rfl))) rfl (g [[2]] ?_);refine WQ.part 66 rfl (fun g66 => ?_) (fun g66 => ?_)
      · try simp only [zq] at g66
        refine g [[1]] ?_;refine WQ.qg rfl rfl (Yd.qt (Yd.indexA UnF.h SzF.h rfl rfl (by omega) (by omega))) rfl (g [[1]] ?_);refine WQ.qg rfl rfl (Yd.qt (Yd.l1 rfl (Rd.own (k := 7) rfl (uq t hj5).2))) rfl (g [[2]] ?_);refine WQ.tailR (g [[1]] ?_);refine WLF.sog (zn rfl) rfl (SO.callP CaF.h rfl (fun w hI => xB _ _ _ _)) rfl (zs (g [[3]] ?_));refine WCF.cond rfl (fun c75 => ?_) (fun c75 => ?_)
        · have hfr : u5 T (ordT T) t at_ (gt (ordT T) at_) (gt (yb (gt T.l (gt (ordT T) at_))) k) = false := Yx (j := j) (by omega) (by unfold qD; rw [decide_eq_true g66]; exact c75);refine g [[7]] ?_;exact WP.iterOnN hrec (h1 := ((b9, .cells (List.toArray [.func (.func 179) #[truV t] #[]]) 255 (0, 0)) :: (b8, .cells (List.toArray [nt (gt (ordT T) at_)]) 3 (0, 0)) :: (b7, .cells (List.toArray [.bool false]) 4 (0, 0)) :: (b6, .cells (List.toArray [nt at_]) 3 (0, 0)) :: (b5, .cells (List.toArray (truC t)) 150 (0, 0)) :: hG)) (fun _ h => List.mem_cons_of_mem _ h) (fun h => (List.nodup_cons.1 h).2) (DExt.refl _ _) ⟨hG, rfl, by rw [Jv hk hfr]; exact hSG⟩
        refine g [[3],[4,2,4,5,6,7,8,9,10,41,42,43]] ?_;exact WP.againF (j + 1) ⟨by omega, zZ hcl (wT.2 (fun _ => c75))⟩ (by omega) ⟨rfl, rfl, rfl, rfl, rfl, rfl, rfl, rfl, rfl, rfl, rfl, trivial⟩ (fun _ h => h) (fun h => h)
      try simp only [zq] at g66
      refine g [[6]] ?_;refine WQ.tailR (g [[5]] ?_);refine WCF.condF rfl (g [[3],[4,2,4,5,6,7,8,9,10,41,42,43]] ?_);exact WP.againF (j + 1) ⟨by omega, zZ hcl (wT.2 (fun e => absurd e g66))⟩ (by omega) ⟨rfl, rfl, rfl, rfl, rfl, rfl, rfl, rfl, rfl, rfl, rfl, trivial⟩ (fun _ h => h) (fun h => h)
    try simp only [zq] at c44
    have hfr : u5 T (ordT T) t at_ (gt (ordT T) at_) (gt (yb (gt T.l (gt (ordT T) at_))) k) = true := VP fun i hi => hcl i (by omega);refine g [[6],[0,4,6,7,8,9,10]] ?_;refine WCF.tail 7 [0, 1, 2, 3, 4, 5, 6] rfl zk zk (noLets.then (noLets.blk noLets.round)) (g [[4]] ?_);refine WQ.q rfl (Qt.call (Enters.val CaF.h rfl rfl) (fun w hI => zdm t (gt (ordT T) at_) (gt (yb (gt T.l (gt (ordT T) at_))) k) hi5 _)) rfl (g [[1]] ?_);refine WQ.q rfl (Yd.qt (Yd.addN (i := at_) (j := 1) rfl rfl (by omega))) rfl (WQ.tailR ?_);refine WLF.so (zn rfl) (SO.altersNS (own := [_, _, _, _, _, _, _, _]) (hpc := hG) (fun _ h => h) (fun h => h) (Enters.val CaF.h rfl rfl) (fun w3 hsz3 hI => ih (upd t (gt (ordT T) at_) (gt (yb (gt T.l (gt (ordT T) at_))) k)) (at_ + 1) (k0 + onN T (ordT T) rem t at_ k) D3 w3 hG (by omega) (Ju hpart hk hfr) (Jt hoT _ hpp) (Nat.le_trans hsw (Nat.le_trans hsz hsz3)) hXX ⟨a3, c3, hq, hS3, hc3⟩ hR h1 h2 h3 hSG hI)) rfl ?_;rintro _ D8 _ ⟨hp8, hX8, ⟨b84, rfl, hK8⟩, rfl⟩;refine g [[3]] ?_;refine WCF.cond rfl (fun c85 => ?_) (fun c85 => ?_)
    · try simp only [zq] at c85
      refine g [[1],[6,7]] ?_;have hb84 : b84 = false := by simpa using c85
      rcases hK8 with ⟨htt, _⟩ | ⟨_, hK8⟩
      · rw [hb84] at htt; cases htt
      exact WP.iterRetN (h1 := ((b9, .cells (List.toArray [.func (.func 179) #[truV t] #[]]) 255 (0, 0)) :: (b8, .cells (List.toArray [nt (gt (ordT T) at_)]) 3 (0, 0)) :: (b7, .cells (List.toArray [.bool false]) 4 (0, 0)) :: (b6, .cells (List.toArray [nt at_]) 3 (0, 0)) :: (b5, .cells (List.toArray (truC t)) 150 (0, 0)) :: hp8)) (fun _ h => List.mem_cons_of_mem _ h) (fun h => (List.nodup_cons.1 h).2) hX8 ⟨rfl, hp8, rfl, hK8⟩
    try simp only [zq] at c85
    refine g [[2]] ?_;have hb84 : b84 = true := by simpa using c85
    rcases hK8 with ⟨_, hK8⟩ | ⟨hff, _⟩
    · exact WP.iterOnN hrec (h1 := ((b9, .cells (List.toArray [.func (.func 179) #[truV t] #[]]) 255 (0, 0)) :: (b8, .cells (List.toArray [nt (gt (ordT T) at_)]) 3 (0, 0)) :: (b7, .cells (List.toArray [.bool false]) 4 (0, 0)) :: (b6, .cells (List.toArray [nt at_]) 3 (0, 0)) :: (b5, .cells (List.toArray (truC t)) 150 (0, 0)) :: hp8)) (fun _ h => List.mem_cons_of_mem _ h) (fun h => (List.nodup_cons.1 h).2) hX8 ⟨hp8, rfl, by rw [zcK hk hfr, ← Nat.add_assoc]; exact hK8⟩
    rw [hb84] at hff; cases hff
  · rintro Dn1 D6 _ hDn1 hX6 ⟨hG, rfl, hSG⟩;refine g [[3],[5,7]] ?_;refine WP.scRet ?_;refine WP.retMs [Dn1] (((b9, .cells (List.toArray [.func (.func 179) #[truV t] #[]]) 255 (0, 0)) :: (b8, .cells (List.toArray [nt (gt (ordT T) at_)]) 3 (0, 0)) :: (b7, .cells (List.toArray [.bool true]) 4 (0, 0)) :: (b6, .cells (List.toArray [nt at_]) 3 (0, 0)) :: (b5, .cells (List.toArray (truC t)) 150 (0, 0)) :: hG)) [_] [_] rfl rfl (fun _ h => h) (fun h => h) rfl zV (fun w2 hI => ⟨_, D6, hG, rfl, hX2.trans hX6 (Nat.le_refl _), hI.drop 5, true, rfl, .inl ⟨rfl, by rw [← zaO]; exact hSG⟩⟩)
  rintro Dn1 c D6 _ hDn1 hX6 ⟨rfl, hG, rfl, hSG⟩;refine g [[3]] ?_;refine WP.scRet ?_;refine WP.retMs [Dn1] (((b9, .cells (List.toArray [.func (.func 179) #[truV t] #[]]) 255 (0, 0)) :: (b8, .cells (List.toArray [nt (gt (ordT T) at_)]) 3 (0, 0)) :: (b7, .cells (List.toArray [.bool false]) 4 (0, 0)) :: (b6, .cells (List.toArray [nt at_]) 3 (0, 0)) :: (b5, .cells (List.toArray (truC t)) 150 (0, 0)) :: hG)) [_] [_] rfl rfl (fun _ h => h) (fun h => h) rfl zV (fun w2 hI => ⟨_, D6, hG, rfl, hX2.trans hX6 (Nat.le_refl _), hI.drop 5, false, rfl, .inr ⟨rfl, hSG⟩⟩)
theorem on_g 
    (hSm : ∀ k D1 D2 h, DExt w0 D1 D2 → St k D1 h → St k D2 h)
    (DD : Imm) (hround : ∀ k D' h w', k < A.length → w0.heap.size ≤ w'.heap.size → DExt w0 DD D' → St k D' h → Inv D' h (keys h) w' w' → YieldAt Fence.wide 0 Tryz.prog ly #[truV (gt A k)] w' (xV w' D' (keys h) (fun b D'' h' => (b = true ∧ St (k + 1) D'' h') ∨ (b = false ∧ Sp D'' h')))) : ∀ rem, ∀ (t : Tru) (at_ k0 : Nat) (D : Imm) (w : World) (h0 : Hp), at_ + rem = T.l.length → PartOf A (truL T (ordT T) rem t at_) k0 → okTr t → w0.heap.size ≤ w.heap.size → DExt w0 DD D → xM D q T (.slice a1 n1 c1) → TksR D T a1 n1 → D b1 = some (.cells (List.toArray [pt q]) 141 (0, 0)) → D b2 = some (.cells (List.toArray [.func (.yield ly) #[] #[]]) 253 (0, 0)) → D b3 = some (.cells (List.toArray [.func (.func 178) #[] #[pt b1, pt b2, pt b3]]) 254 (0, 0)) → St k0 D h0 → Inv D h0 (keys h0) w w → zp Tryz.prog 178 [truV t, nt at_, pt b1, pt b2, pt b3] w D (keys h0) (fun v D' h' => ∃ b, v = .bool b ∧ ((b = true ∧ St (k0 + (truL T (ordT T) rem t at_).length) D' h') ∨ (b = false ∧ Sp D' h'))) := by
  intro rem
  induction rem with
  | zero => exact on_0 T a1 n1 c1 q b1 b2 b3 ly St Sp w0 A hv hSm DD hround
  | succ rem ih => exact on_s T a1 n1 c1 q b1 b2 b3 ly St Sp w0 A hv hSm DD hround rem ih
end
theorem yt (T : Tks) (a1 : Option Addr) (n1 c1 : Nat) (q b1 : Nat) (D : Imm) (w : World) (hO : xM D q T (.slice a1 n1 c1)) (hR : TksR D T a1 n1) (h1 : D b1 = some (.cells (List.toArray [pt q]) 141 (0, 0))) (hv : tksB T = true) (hH : Holds D w) : V9 Tryz.prog 177 [pt b1] (allT T).length (fun k => truV (gt (allT T) k)) D w := by
  unfold V9;intro l St Sp hSm hround h0 hS0 hI0;unfold zp;refine en Tryz.func177 rfl Tryz.ntmps177 hI0 (g [[1],[1,0,1]] ?_);refine WL.so (SO.box rfl rfl) rfl (zw fun b2 hb2 => ?_);refine g [[3],[1,2,1]] ?_;refine WL.so (SO.alloc ZvF.h rfl) rfl (zw fun b3 hb3 => ?_);refine g [[3],[5,3,2,1]] ?_;refine WC.freezeK 0 rfl (fun hn3 => ?_);refine WC.freezeK 0 rfl (fun hn2 => ?_);have hX3 : DExt w D ((D.add b3 (.cells (List.toArray [.func (.func 178) #[] #[pt b1, pt b2, pt b3]]) 254 (0, 0))).add b2 (.cells (List.toArray [.func (.yield l) #[] #[]]) 253 (0, 0))) := ((DExt.refl w D).add hn3 hb3).add hn2 hb2;have h2 : ((D.add b3 (.cells (List.toArray [.func (.func 178) #[] #[pt b1, pt b2, pt b3]]) 254 (0, 0))).add b2 (.cells (List.toArray [.func (.yield l) #[] #[]]) 253 (0, 0))) b2 = some (.cells (List.toArray [.func (.yield l) #[] #[]]) 253 (0, 0)) := Imm.add_self _ _ _;have h3 : ((D.add b3 (.cells (List.toArray [.func (.func 178) #[] #[pt b1, pt b2, pt b3]]) 254 (0, 0))).add b2 (.cells (List.toArray [.func (.yield l) #[] #[]]) 253 (0, 0))) b3 = some (.cells (List.toArray [.func (.func 178) #[] #[pt b1, pt b2, pt b3]]) 254 (0, 0)) := ((DExt.refl w _).add hn2 hb2).old _ _ (Imm.add_self _ _ _);replace h1 := hX3.old _ _ h1;replace hO := hO.ext hX3;replace hR := hR.ext hX3;refine (?_ : WC Tryz.prog _ _ ((D.add b3 (.cells (List.toArray [.func (.func 178) #[] #[pt b1, pt b2, pt b3]]) 254 (0, 0))).add b2 (.cells (List.toArray [.func (.yield l) #[] #[]]) 253 (0, 0))) h0 _ _);generalize ((D.add b3 (.cells (List.toArray [.func (.func 178) #[] #[pt b1, pt b2, pt b3]]) 254 (0, 0))).add b2 (.cells (List.toArray [.func (.yield l) #[] #[]]) 253 (0, 0))) = D3 at hX3 h1 h2 h3 hO hR ⊢;refine g [[2,3]] ?_;refine WL.yd (Yd.buildA (zs := [.int .i64 0, .int .i64 0, .int .i64 0, .int .i64 0, .int .i64 0, .int .i64 0, .int .i64 0, .int .i64 0, .int .i64 0, .int .i64 0]) ⟨_, ZvF.h, rfl⟩ UnF.h SzF.h rfl (cs := [_, _, _, _, _, _, _, _, _, _]) rfl) rfl (WL.know 6 (truV V3) rfl rfl ?_);refine WL.so (SO.altersNS (own := []) (hpc := h0) (fun _ h => h) (fun h => h) (Enters.val CaF.h rfl rfl) (fun w3 hsz hI => on_g T a1 n1 c1 q b1 b2 b3 l St Sp w (allT T) hv hSm D hround T.l.length V3 0 0 D3 w3 h0 (by omega) ⟨[], [], by simp [allT], rfl⟩ Uo hsz hX3 hO hR h1 h2 h3 (hSm _ _ _ _ hX3 hS0) hI)) rfl ?_;rintro _ D8 hp8 ⟨_, hX8, ⟨b7, rfl, hK8⟩, rfl⟩;refine g [[1]] ?_
  refine WP.ret0 rfl rfl rfl  (fun w1 hI => by
    rcases hK8 with ⟨rfl, hK8⟩ | ⟨rfl, hK8⟩
    · exact ⟨_, D8, hp8, rfl, hX3.trans hX8 (Nat.le_refl _), hI, .inl (by rw [Nat.zero_add] at hK8; exact hK8)⟩
    exact ⟨_, D8, hp8, rfl, hX3.trans hX8 (Nat.le_refl _), hI, .inr hK8⟩)
theorem ka (t : Tru) (a b : Nat) (ha : a < 5) (hb5 : b < 5) (w : World) : z8 Tryz.prog 92 [truV t, nt a, nt b] w (.bool (befT t a b)) := by
  unfold z8;refine en Tryz.func92 rfl Tryz.ntmps92 zI (g [[1],[1,0,1,2]] ?_);refine WL.so (SO.box rfl rfl) rfl (zw fun b3 hb3 => ?_);refine g [[4],[0,6,3,1,2],[3022],[1]] ?_;refine WQ.q rfl (Yd.qt (Yd.indexA UnF.h SzF.h rfl rfl (by omega) (by omega))) rfl (g [[1]] ?_);refine WQ.q rfl (Yd.qt (Yd.l1 rfl (Rd.own (k := 0) rfl (uq t (i := a) (by omega)).1))) rfl (g [[1]] ?_);refine WQ.q rfl (Yd.qt (Yd.indexA UnF.h SzF.h rfl rfl (by omega) (by omega))) rfl (g [[1]] ?_);refine WQ.q rfl (Yd.qt (Yd.l1 rfl (Rd.own (k := 0) rfl (uq t (i := b) (by omega)).1))) rfl (g [[2]] ?_);refine WQ.part 16 rfl (fun g16 => ?_) (fun g16 => ?_)
  · try simp only [zq] at g16
    refine g [[20]] ?_;refine WP.ret1 rfl rfl rfl (RV.tmp rfl) (fun w hI => ⟨zb (by rw [Bool.eq_iff_iff]; simp_all [befT]; try omega), hI.keep⟩)
  try simp only [zq] at g16
  refine g [[1]] ?_;refine WQ.qg rfl rfl (Yd.qt (Yd.indexA UnF.h SzF.h rfl rfl (by omega) (by omega))) rfl (g [[1]] ?_);refine WQ.qg rfl rfl (Yd.qt (Yd.l1 rfl (Rd.own (k := 0) rfl (uq t (i := a) (by omega)).1))) rfl (g [[1]] ?_);refine WQ.qg rfl rfl (Yd.qt (Yd.indexA UnF.h SzF.h rfl rfl (by omega) (by omega))) rfl (g [[1]] ?_);refine WQ.qg rfl rfl (Yd.qt (Yd.l1 rfl (Rd.own (k := 0) rfl (uq t (i := b) (by omega)).1))) rfl (g [[2]] ?_);refine WQ.part 26 rfl (fun g26 => ?_) (fun g26 => ?_)
  · try simp only [zq] at g26
    refine g [[10]] ?_;refine WP.ret1 rfl rfl rfl (RV.tmp rfl) (fun w hI => ⟨zb (by rw [Bool.eq_iff_iff]; simp_all [befT]; try omega), hI.keep⟩)
  try simp only [zq] at g26
  refine g [[10]] ?_;refine WP.ret1 rfl rfl rfl (RV.tmp rfl) (fun w hI => ⟨zb (by rw [Bool.eq_iff_iff]; simp_all [befT]; try omega), hI.keep⟩)
theorem JE (t : Tru) (a b : Nat) (v : Value) (ha : a < 5) (hbb : b < 5) (w : World) : z8 Tryz.prog 335 [.agg #[nt a, nt b], v, truV t] w (.bool (WN t a b)) := by
  unfold z8;refine en Tryz.func335 rfl Tryz.ntmps335 zI (g [[1],[1,0,2]] ?_);refine WL.so (SO.box rfl rfl) rfl (zw fun b3 hb3 => ?_);refine WL.so (SO.box rfl rfl) rfl (zw fun b5 hb5 => ?_);refine g [[4],[5,6,5,3],[0,7,6,5,3],[3018],[6]] ?_;refine WQ.q rfl (Qt.call (Enters.val CaF.h rfl rfl) (fun w hI => ka t b a hbb ha _)) rfl (g [[1]] ?_);refine WQ.part 15 rfl (fun g15 => ?_) (fun g15 => ?_)
  · refine g [[2]] ?_;refine WQ.qg rfl rfl (Yd.qt (Yd.indexA UnF.h SzF.h rfl rfl (by omega) (by omega))) rfl (g [[1]] ?_);refine WQ.qg rfl rfl (Yd.qt (Yd.l1 rfl (Rd.own (k := 0) rfl (uq t (i := b) (by omega)).2))) rfl (g [[2]] ?_);refine WQ.qg rfl rfl (Yd.qt (Yd.indexA UnF.h SzF.h rfl rfl (by omega) (by omega))) rfl (g [[1]] ?_);refine WQ.qg rfl rfl (Yd.qt (Yd.l1 rfl (Rd.own (k := 0) rfl (uq t (i := a) (by omega)).2))) rfl (g [[7]] ?_);refine WP.ret1 rfl rfl rfl (RV.tmp rfl) (fun w hI => ⟨zb (by rw [Bool.eq_iff_iff]; simp_all [WN]), hI.keep⟩)
  refine g [[17]] ?_;refine WP.ret1 rfl rfl rfl (RV.tmp rfl) (fun w hI => ⟨zb (by rw [Bool.eq_iff_iff]; simp_all [WN]), hI.keep⟩)
section
variable (T : Tks) (a1 : Option Addr) (n1 c1 : Nat) (q : Nat) (D : Imm) (w : World) (hO : xM D q T (.slice a1 n1 c1)) (hR : TksR D T a1 n1) (hH : Holds D w) (hv : tksB T = true) (t : Tru) (a : Nat)
include T a1 n1 c1 q D w hO hR hH hv t a
theorem Ux (o : Int) (ha : a < 5) : z8 Tryz.prog 334 [.agg #[nt a, it o], pt q, truV t] w (.bool ((List.range T.l.length).any (WN t a))) := by
  unfold z8;obtain rfl := hR.tick.len';have hl1 := hR.len;have h5 := (y8 hv).2.1;obtain ⟨a3, c3, hq, hS3, hc3⟩ := hO;refine en Tryz.func334 rfl Tryz.ntmps334 (Inv.start hH) (g [[1],[1,0,1,2]] ?_);refine WL.so (SO.box rfl rfl) rfl (zw fun b3 hb3 => ?_);refine WL.so (SO.box rfl rfl) rfl (zw fun b5 hb5 => ?_);refine g [[5],[11,6,5,3,1]] ?_;refine WC.loop (fun y : Nat × Int => [(1, pt q), (3, pt b3), (5, pt b5), (12, nt T.l.length), (13, nt y.1)]) (fun y => [(b5, .cells (List.toArray (truC t)) 150 (0, 0)), (b3, .cells (List.toArray [nt a, it y.2]) 181 (0, 0))]) (fun _ => D) (fun y => y.1 ≤ T.l.length ∧ ∀ i, i < y.1 → WN t a i = false) (fun y => T.l.length - y.1) (0, o) ⟨by omega, by intro i hi; omega⟩ (fun a w h => y4 h ⟨rfl, rfl, rfl, rfl, rfl, trivial⟩) ?_;rintro ⟨k, o⟩ ⟨hk, hd⟩;dsimp only at hk hd;refine g [[1],[5,1,3,5,12,13]] ?_;refine WC.cond rfl (fun c14 => ?_) (fun c14 => ?_)
  · try simp only [zq] at c14
    refine g [[5],[7,1,3,5,12,13],[4,1,3,5,12,13]] ?_;refine WL.cl rfl (fun w hI => (JE t a k (pt q) ha (by omega) _)) (g [[2]] ?_);refine WC.cond rfl (fun c20 => ?_) (fun c20 => ?_)
    · refine g [[1],[10,1,3,5,12,13]] ?_;refine WP.ret1 rfl rfl rfl (RV.tmp rfl) (fun w hI => ⟨zb (Eq.symm (List.any_eq_true.2 ⟨k, List.mem_range.2 (by omega), c20⟩)), hI.keep⟩)
    refine g [[3],[4,1,3,5,12,13]] ?_;exact WP.again (⟨k + 1, (k : Int)⟩ : Nat × Int) ⟨by simp only; omega, zZ hd c20⟩ (by simp only; omega) (fun aa ww h => y4 h ⟨rfl, rfl, rfl, rfl, rfl, trivial⟩)
  try simp only [zq] at c14
  refine g [[6]] ?_;refine WC.ofFr [] trivial (g [[5]] ?_);refine WP.ret1 rfl rfl rfl (RV.tmp rfl) (fun w hI => ⟨zb (Eq.symm (by rw [List.any_eq_false]; intro i hi; rw [hd i (by have := List.mem_range.1 hi; omega)]; simp)), hI.keep⟩)
theorem Wb (ha : a < 5) : z8 Tryz.prog 336 [.agg #[nt a, it 0], pt q, truV t] w (.bool (yD T.l.length t a)) := by
  unfold z8;refine en Tryz.func336 rfl Tryz.ntmps336 (Inv.start hH) (g [[1],[1,0,1,2]] ?_);refine WL.so (SO.box rfl rfl) rfl (zw fun b3 hb3 => ?_);refine WL.so (SO.box rfl rfl) rfl (zw fun b5 hb5 => ?_);refine g [[4],[5,6,5,3,1]] ?_;refine WL.cl rfl (fun w hI => (Ux T a1 n1 c1 q D _ hO hR hI.imm hv t a 0 ha)) (g [[5]] ?_);refine WP.ret1 rfl rfl rfl (RV.tmp rfl) (fun w hI => ⟨rfl, hI.keep⟩)
end
theorem zdQ : zj Tryz.prog 178 [.bool false, .bool false] [(0, 1), (1, 1)] := ⟨⟨_, Tryz.zeroValue178, rfl⟩, _, Tryz.underlying178, fun w => by simp [Tryz.sizeOf4]⟩
abbrev zbH := SaF.mk zdQ
attribute [instance] zbH
theorem zd {α : Type} [Inhabited α] {f : α → Bool} {l : List α} {k : Nat} (hk : k < l.length) : (l.take (k + 1)).any f = ((l.take k).any f || f (gt l k)) := by
  have hg : gt l k = l[k] := by simp [gt, List.getD, hk]
  rw [List.take_succ_eq_append_getElem hk, List.any_append, hg];simp
theorem zg {α : Type} {f : α → Bool} {l : List α} {k : Nat} (h : (l.take k).any f = true) : l.any f = true := by
  obtain ⟨x, hx, hf⟩ := List.any_eq_true.1 h;exact List.any_eq_true.2 ⟨x, List.mem_of_mem_take hx, hf⟩
theorem Zh {α : Type} {f : α → Bool} {l : List α} (hne : l ≠ []) (h1 : l.any f = false) (h2 : (l.any fun x => !f x) = false) : False := by
  cases l with
  | nil => exact hne rfl
  | cons x l =>
    rw [List.any_cons] at h1 h2;cases hf : f x <;> simp [hf] at h1 h2
theorem eqVd (a b c d : Bool) : ∀ w, (Op.equalIn 10000 178 (.agg #[.bool a, .bool b]) (.agg #[.bool c, .bool d])).run Tryz.prog w = .ok (a == c && b == d) w := by
  intro w;cases a <;> cases b <;> cases c <;> cases d <;> simp [go_sem, Op.eqFields]
theorem Qc (a b : Bool) (w : World) : z8 Tryz.prog 119 [.agg #[.bool a, .bool b]] w (it (vI a b)) := by
  unfold z8;refine en Tryz.func119 rfl Tryz.ntmps119 zI (g [[1],[1,0]] ?_);refine WL.so (SO.box rfl rfl) rfl (zw fun b1 hb1 => ?_);refine g [[5],[6,2,1],[2,3,2]] ?_;refine WL.yd (Yd.eqS EgF.h (eqVd _ _ _ _) rfl rfl) rfl (g [[3]] ?_);refine WC.cond rfl (fun c4 => ?_) (fun c4 => ?_)
  · refine g [[1],[7,2]] ?_;refine WP.ret1 rfl rfl rfl (RV.tmp rfl) (fun w hI => ⟨j8 (by unfold vI; cases a <;> cases b <;> simp_all), hI.keep⟩)
  refine g [[1],[2,3,2]] ?_;refine WL.yd (Yd.eqS EgF.h (eqVd _ _ _ _) rfl rfl) rfl (g [[3]] ?_);refine WC.cond rfl (fun c7 => ?_) (fun c7 => ?_)
  · refine g [[1],[7,2]] ?_;refine WP.ret1 rfl rfl rfl (RV.tmp rfl) (fun w hI => ⟨j8 (by unfold vI; cases a <;> cases b <;> simp_all), hI.keep⟩)
  refine g [[4],[5,2]] ?_;refine WP.ret1 rfl rfl rfl (RV.tmp rfl) (fun w hI => ⟨j8 (by unfold vI; cases a <;> cases b <;> simp_all), hI.keep⟩)
section
variable (T : Tks) (a1 : Option Addr) (n1 c1 : Nat) (q : Nat) (D : Imm) (w : World) (hO : xM D q T (.slice a1 n1 c1)) (hR : TksR D T a1 n1) (hH : Holds D w) (hv : tksB T = true) (a : Nat) (ha : a < 5)
include T a1 n1 c1 q D w hO hR hH hv a ha
theorem zcd (hne : allT T ≠ []) : z8 Tryz.prog 118 [pt q, .iface 183 (.agg #[nt a, it 0])] w (.agg #[.bool ((allT T).any (fun t => yD T.l.length t a)), .bool ((allT T).any (fun t => !yD T.l.length t a))]) := by
  unfold z8;obtain rfl := hR.tick.len';have hl1 := hR.len;refine enM Tryz.func118 rfl Tryz.ntmps118 (Inv.start hH) (g [[1],[1,0,1]] ?_);refine WL.so (SO.box rfl rfl) rfl (zw fun b2 hb2 => ?_);refine WL.so (SO.box rfl rfl) rfl (zw fun b3 hb3 => ?_);refine WL.so (SO.alloc ZvF.h rfl) rfl (zw fun b4 hb4 => ?_);refine g [[4],[2,4,3,2]] ?_;refine WL.so (SO.makes (Enters.func Tryz.call90 rfl) (fun w hI => we q D _ hI.imm)) rfl ?_;rintro _ D1 _ ⟨hX1, ⟨bt, rfl, hbt⟩, rfl⟩;replace hO := hO.ext hX1;replace hR := hR.ext hX1;refine g [[3],[0,2,3,4,8]] ?_;refine WC.rangeIterN (N := (allT T).length) (arg := fun k => truV (gt (allT T) k)) (fun w1 _ hD1 => yt T a1 _ c1 q bt D1 w1 hO hR hbt hv hD1) rfl Tryz.call177 rfl (fun k _ h => h = [(b4, .cells (List.toArray [.bool (((allT T).take k).any (fun t => yD T.l.length t a)), .bool (((allT T).take k).any (fun t => !yD T.l.length t a))]) 178 (0, 0)), (b3, .cells (List.toArray [.iface 183 (.agg #[nt a, it 0])]) 274 (0, 0)), (b2, .cells (List.toArray [pt q]) 141 (0, 0))]) (fun c _ h => c = .ret ∧ h = [(b4, .cells (List.toArray [.bool ((allT T).any (fun t => yD T.l.length t a)), .bool ((allT T).any (fun t => !yD T.l.length t a))]) 178 (0, 0)), (b3, .cells (List.toArray [.iface 183 (.agg #[nt a, it 0])]) 274 (0, 0)), (b2, .cells (List.toArray [pt q]) 141 (0, 0))] ∧ allT T ≠ []) (fun _ _ _ _ _ h => h) rfl ?_ ?_ ?_
  · rintro rec1 l1 Dn0 k D5 _ w1 hrec hk rfl hX5 hsz;unfold yP;replace hO := hO.ext hX5;replace hR := hR.ext hX5;refine g [[1,9,2,3,4]] ?_;refine WLF.so (zn rfl) (SO.alloc ZvF.h rfl) rfl (zw fun b5 hb5 => ?_);refine g [[2]] ?_;refine WP.iterBegin 1 rfl hrec (g [[2],[4,5,2,3,4]] ?_);refine WLF.so (zn rfl) (SO.call (Enters.meth CaF.h (fun w => by kernel_rfl) rfl rfl) (fun w hI => Wb T a1 _ c1 q D5 _ hO hR hI.imm hv (gt (allT T) k) a ha)) rfl (zs (g [[4],[4,6,4]] ?_));refine WLF.part 16 rfl (fun g16 => ?_) (fun g16 => ?_)
    · refine g [[5]] ?_;refine WLF.part 21 rfl (fun g21 => ?_) (fun g21 => ?_)
      · refine g [[8],[3,4]] ?_;refine WLF.yd (zn rfl) (Yd.eqS EgF.h (eqVd _ _ _ _) rfl rfl) rfl (g [[2]] ?_);refine WCF.cond rfl (fun c28 => ?_) (fun c28 => ?_)
        · refine g [[1],[7,4]] ?_;have hA : (allT T).any (fun t => yD T.l.length t a) = true := zg (k := k + 1) (by rw [zd hk]; simp_all);have hN : (allT T).any (fun t => !yD T.l.length t a) = true := zg (k := k + 1) (by rw [zd hk]; simp_all);refine WP.iterRetN (h1 := [_, _, _]) (fun _ h => List.mem_cons_of_mem _ h) (fun h => (List.nodup_cons.1 h).2) (DExt.refl _ _) ⟨rfl, ?_, List.ne_nil_of_length_pos (by omega)⟩;rw [hA, hN];rfl
        refine g [[2]] ?_;refine WP.iterOnN hrec (h1 := [_, _, _]) (fun _ h => List.mem_cons_of_mem _ h) (fun h => (List.nodup_cons.1 h).2) (DExt.refl _ _) ?_;rw [zd hk, zd hk, g16, g21];rfl
      refine g [[8],[3,4]] ?_;refine WLF.yd (zn rfl) (Yd.eqS EgF.h (eqVd _ _ _ _) rfl rfl) rfl (g [[2]] ?_);refine WCF.cond rfl (fun c28 => ?_) (fun c28 => ?_)
      · refine g [[1],[7,4]] ?_;have hA : (allT T).any (fun t => yD T.l.length t a) = true := zg (k := k + 1) (by rw [zd hk]; simp_all);have hN : (allT T).any (fun t => !yD T.l.length t a) = true := zg (k := k + 1) (by rw [zd hk]; simp_all);refine WP.iterRetN (h1 := [_, _, _]) (fun _ h => List.mem_cons_of_mem _ h) (fun h => (List.nodup_cons.1 h).2) (DExt.refl _ _) ⟨rfl, ?_, List.ne_nil_of_length_pos (by omega)⟩;rw [hA, hN];have e : yD T.l.length (gt (allT T) k) a = false := by simp_all
        rw [e]; rfl
      refine g [[2]] ?_;refine WP.iterOnN hrec (h1 := [_, _, _]) (fun _ h => List.mem_cons_of_mem _ h) (fun h => (List.nodup_cons.1 h).2) (DExt.refl _ _) ?_;rw [zd hk, zd hk, g16, g21];rfl
    refine g [[5]] ?_;refine WLF.part 21 rfl (fun g21 => ?_) (fun g21 => ?_)
    · refine g [[8],[3,4]] ?_;refine WLF.yd (zn rfl) (Yd.eqS EgF.h (eqVd _ _ _ _) rfl rfl) rfl (g [[2]] ?_);refine WCF.cond rfl (fun c28 => ?_) (fun c28 => ?_)
      · refine g [[1],[7,4]] ?_;have hA : (allT T).any (fun t => yD T.l.length t a) = true := zg (k := k + 1) (by rw [zd hk]; simp_all);have hN : (allT T).any (fun t => !yD T.l.length t a) = true := zg (k := k + 1) (by rw [zd hk]; simp_all);refine WP.iterRetN (h1 := [_, _, _]) (fun _ h => List.mem_cons_of_mem _ h) (fun h => (List.nodup_cons.1 h).2) (DExt.refl _ _) ⟨rfl, ?_, List.ne_nil_of_length_pos (by omega)⟩;rw [hA, hN];have e : yD T.l.length (gt (allT T) k) a = true := by simp_all
        rw [e]; rfl
      refine g [[2]] ?_;refine WP.iterOnN hrec (h1 := [_, _, _]) (fun _ h => List.mem_cons_of_mem _ h) (fun h => (List.nodup_cons.1 h).2) (DExt.refl _ _) ?_;rw [zd hk, zd hk, g16, g21];rfl
    refine g [[8],[3,4]] ?_;refine WLF.yd (zn rfl) (Yd.eqS EgF.h (eqVd _ _ _ _) rfl rfl) rfl (g [[2]] ?_);refine WCF.cond rfl (fun c28 => ?_) (fun c28 => ?_)
    · refine g [[1],[7,4]] ?_;have hA : (allT T).any (fun t => yD T.l.length t a) = true := zg (k := k + 1) (by rw [zd hk]; simp_all);have hN : (allT T).any (fun t => !yD T.l.length t a) = true := zg (k := k + 1) (by rw [zd hk]; simp_all);refine WP.iterRetN (h1 := [_, _, _]) (fun _ h => List.mem_cons_of_mem _ h) (fun h => (List.nodup_cons.1 h).2) (DExt.refl _ _) ⟨rfl, ?_, List.ne_nil_of_length_pos (by omega)⟩;rw [hA, hN]
      exfalso; revert c28; cases yD T.l.length (gt (allT T) k) a <;> simp; done
    refine g [[2]] ?_;refine WP.iterOnN hrec (h1 := [_, _, _]) (fun _ h => List.mem_cons_of_mem _ h) (fun h => (List.nodup_cons.1 h).2) (DExt.refl _ _) ?_;rw [zd hk, zd hk, g16, g21];rfl
  · rintro Dn1 D6 _ hDn1 hX6 rfl;rw [List.take_length];refine g [[3],[4,4]] ?_;refine WL.part 32 rfl (fun g32 => ?_) (fun g32 => ?_)
    · refine g [[3]] ?_;refine WL.cl rfl (fun w hI => xp _ _) (g [[3],[6,4]] ?_);refine WP.retMs [Dn1] [_, _, _] [_] [_] rfl rfl (fun _ h => h) (fun h => h) rfl zV (fun w hI => ⟨rfl, hI.keep⟩)
    refine g [[3]] ?_;refine WL.part 35 rfl (fun g35 => ?_) (fun g35 => ?_)
    · refine WL.cl rfl (fun w hI => xp _ _) (g [[3],[6,4]] ?_);refine WP.retMs [Dn1] [_, _, _] [_] [_] rfl rfl (fun _ h => h) (fun h => h) rfl zV (fun w hI => ⟨rfl, hI.keep⟩)
    exact (Zh hne g32 g35).elim
  rintro Dn1 c D6 _ hDn1 hX6 ⟨rfl, rfl, hne2⟩;refine g [[3]] ?_;refine WP.retMs [Dn1] [_, _, _] [_] [_] rfl rfl (fun _ h => h) (fun h => h) rfl zV (fun w hI => ⟨rfl, hI.keep⟩)
theorem zcc (hne : allT T = []) : xC Tryz.prog 118 [pt q, .iface 183 (.agg #[nt a, it 0])] w (jz 10) := by
  unfold xC;obtain rfl := hR.tick.len';have hl1 := hR.len;refine enM Tryz.func118 rfl Tryz.ntmps118 (Inv.start hH) (g [[1],[1,0,1]] ?_);refine WL.so (SO.box rfl rfl) rfl (zw fun b2 hb2 => ?_);refine WL.so (SO.box rfl rfl) rfl (zw fun b3 hb3 => ?_);refine WL.so (SO.alloc ZvF.h rfl) rfl (zw fun b4 hb4 => ?_);refine g [[4],[2,4,3,2]] ?_;refine WL.so (SO.makes (Enters.func Tryz.call90 rfl) (fun w hI => we q D _ hI.imm)) rfl ?_;rintro _ D1 _ ⟨hX1, ⟨bt, rfl, hbt⟩, rfl⟩;replace hO := hO.ext hX1;replace hR := hR.ext hX1;refine g [[3],[0,2,3,4,8]] ?_;refine WC.rangeIterN (N := (allT T).length) (arg := fun k => truV (gt (allT T) k)) (fun w1 _ hD1 => yt T a1 _ c1 q bt D1 w1 hO hR hbt hv hD1) rfl Tryz.call177 rfl (fun k _ h => h = [(b4, .cells (List.toArray [.bool (((allT T).take k).any (fun t => yD T.l.length t a)), .bool (((allT T).take k).any (fun t => !yD T.l.length t a))]) 178 (0, 0)), (b3, .cells (List.toArray [.iface 183 (.agg #[nt a, it 0])]) 274 (0, 0)), (b2, .cells (List.toArray [pt q]) 141 (0, 0))]) (fun c _ h => c = .ret ∧ h = [(b4, .cells (List.toArray [.bool ((allT T).any (fun t => yD T.l.length t a)), .bool ((allT T).any (fun t => !yD T.l.length t a))]) 178 (0, 0)), (b3, .cells (List.toArray [.iface 183 (.agg #[nt a, it 0])]) 274 (0, 0)), (b2, .cells (List.toArray [pt q]) 141 (0, 0))] ∧ allT T ≠ []) (fun _ _ _ _ _ h => h) rfl ?_ ?_ ?_
  · rintro rec1 l1 Dn0 k D5 _ w1 hrec hk rfl hX5 hsz;unfold yP;replace hO := hO.ext hX5;replace hR := hR.ext hX5;refine g [[1,9,2,3,4]] ?_;refine WLF.so (zn rfl) (SO.alloc ZvF.h rfl) rfl (zw fun b5 hb5 => ?_);refine g [[2]] ?_;refine WP.iterBegin 1 rfl hrec (g [[2],[4,5,2,3,4]] ?_);refine WLF.so (zn rfl) (SO.call (Enters.meth CaF.h (fun w => by kernel_rfl) rfl rfl) (fun w hI => Wb T a1 _ c1 q D5 _ hO hR hI.imm hv (gt (allT T) k) a ha)) rfl (zs (g [[4],[4,6,4]] ?_));refine WLF.part 16 rfl (fun g16 => ?_) (fun g16 => ?_)
    · refine g [[5]] ?_;refine WLF.part 21 rfl (fun g21 => ?_) (fun g21 => ?_)
      · refine g [[8],[3,4]] ?_;refine WLF.yd (zn rfl) (Yd.eqS EgF.h (eqVd _ _ _ _) rfl rfl) rfl (g [[2]] ?_);refine WCF.cond rfl (fun c28 => ?_) (fun c28 => ?_)
        · refine g [[1],[7,4]] ?_;have hA : (allT T).any (fun t => yD T.l.length t a) = true := zg (k := k + 1) (by rw [zd hk]; simp_all);have hN : (allT T).any (fun t => !yD T.l.length t a) = true := zg (k := k + 1) (by rw [zd hk]; simp_all);refine WP.iterRetN (h1 := [_, _, _]) (fun _ h => List.mem_cons_of_mem _ h) (fun h => (List.nodup_cons.1 h).2) (DExt.refl _ _) ⟨rfl, ?_, List.ne_nil_of_length_pos (by omega)⟩;rw [hA, hN];rfl
        refine g [[2]] ?_;refine WP.iterOnN hrec (h1 := [_, _, _]) (fun _ h => List.mem_cons_of_mem _ h) (fun h => (List.nodup_cons.1 h).2) (DExt.refl _ _) ?_;rw [zd hk, zd hk, g16, g21];rfl
      refine g [[8],[3,4]] ?_;refine WLF.yd (zn rfl) (Yd.eqS EgF.h (eqVd _ _ _ _) rfl rfl) rfl (g [[2]] ?_);refine WCF.cond rfl (fun c28 => ?_) (fun c28 => ?_)
      · refine g [[1],[7,4]] ?_;have hA : (allT T).any (fun t => yD T.l.length t a) = true := zg (k := k + 1) (by rw [zd hk]; simp_all);have hN : (allT T).any (fun t => !yD T.l.length t a) = true := zg (k := k + 1) (by rw [zd hk]; simp_all);refine WP.iterRetN (h1 := [_, _, _]) (fun _ h => List.mem_cons_of_mem _ h) (fun h => (List.nodup_cons.1 h).2) (DExt.refl _ _) ⟨rfl, ?_, List.ne_nil_of_length_pos (by omega)⟩;rw [hA, hN];have e : yD T.l.length (gt (allT T) k) a = false := by simp_all
        rw [e]; rfl
      refine g [[2]] ?_;refine WP.iterOnN hrec (h1 := [_, _, _]) (fun _ h => List.mem_cons_of_mem _ h) (fun h => (List.nodup_cons.1 h).2) (DExt.refl _ _) ?_;rw [zd hk, zd hk, g16, g21];rfl
    refine g [[5]] ?_;refine WLF.part 21 rfl (fun g21 => ?_) (fun g21 => ?_)
    · refine g [[8],[3,4]] ?_;refine WLF.yd (zn rfl) (Yd.eqS EgF.h (eqVd _ _ _ _) rfl rfl) rfl (g [[2]] ?_);refine WCF.cond rfl (fun c28 => ?_) (fun c28 => ?_)
      · refine g [[1],[7,4]] ?_;have hA : (allT T).any (fun t => yD T.l.length t a) = true := zg (k := k + 1) (by rw [zd hk]; simp_all);have hN : (allT T).any (fun t => !yD T.l.length t a) = true := zg (k := k + 1) (by rw [zd hk]; simp_all);refine WP.iterRetN (h1 := [_, _, _]) (fun _ h => List.mem_cons_of_mem _ h) (fun h => (List.nodup_cons.1 h).2) (DExt.refl _ _) ⟨rfl, ?_, List.ne_nil_of_length_pos (by omega)⟩;rw [hA, hN];have e : yD T.l.length (gt (allT T) k) a = true := by simp_all
        rw [e]; rfl
      refine g [[2]] ?_;refine WP.iterOnN hrec (h1 := [_, _, _]) (fun _ h => List.mem_cons_of_mem _ h) (fun h => (List.nodup_cons.1 h).2) (DExt.refl _ _) ?_;rw [zd hk, zd hk, g16, g21];rfl
    refine g [[8],[3,4]] ?_;refine WLF.yd (zn rfl) (Yd.eqS EgF.h (eqVd _ _ _ _) rfl rfl) rfl (g [[2]] ?_);refine WCF.cond rfl (fun c28 => ?_) (fun c28 => ?_)
    · refine g [[1],[7,4]] ?_;have hA : (allT T).any (fun t => yD T.l.length t a) = true := zg (k := k + 1) (by rw [zd hk]; simp_all);have hN : (allT T).any (fun t => !yD T.l.length t a) = true := zg (k := k + 1) (by rw [zd hk]; simp_all);refine WP.iterRetN (h1 := [_, _, _]) (fun _ h => List.mem_cons_of_mem _ h) (fun h => (List.nodup_cons.1 h).2) (DExt.refl _ _) ⟨rfl, ?_, List.ne_nil_of_length_pos (by omega)⟩;rw [hA, hN]
      exfalso; revert c28; cases yD T.l.length (gt (allT T) k) a <;> simp; done
    refine g [[2]] ?_;refine WP.iterOnN hrec (h1 := [_, _, _]) (fun _ h => List.mem_cons_of_mem _ h) (fun h => (List.nodup_cons.1 h).2) (DExt.refl _ _) ?_;rw [zd hk, zd hk, g16, g21];rfl
  · rintro Dn1 D6 _ hDn1 hX6 rfl;rw [List.take_length];refine g [[3],[4,4]] ?_;refine WL.part 32 rfl (fun g32 => ?_) (fun g32 => ?_)
    · rw [hne] at g32; cases g32
    refine g [[3]] ?_;refine WL.part 35 rfl (fun g35 => ?_) (fun g35 => ?_)
    · rw [hne] at g35; cases g35
    refine WL.nf rfl (fun w hI => xo _ _) (g [[1]] ?_);exact WP.panicMs [Dn1] [_, _, _] rfl (fun _ h => h) (fun h => h) (fun w hI => ⟨rfl, hI.keep⟩)
  rintro Dn1 c D6 _ hDn1 hX6 ⟨rfl, rfl, hne2⟩;exact absurd hne hne2
end
end Go.Proofs.YtejgofaeafphjaaGreatDoor
namespace Go.Ti
open Go.W (gt wX)
abbrev Ms := Bool × Int × Int
def seeS (s : Ms) (n : Int) : Ms := (true, if s.1 then min s.2.1 n else n, if s.1 then max s.2.2 n else n)
def qJ (g : Tru → Int) (l : List Tru) : Ms := l.foldl (fun s t => seeS s (g t)) (false, 0, 0)
def vW (g : Tru → Int) (l : List Tru) : Sp := ⟨(qJ g l).2.1, (qJ g l).2.2⟩
theorem Wy (g : Tru → Int) {l : List Tru} {k : Nat} (hk : k < l.length) : qJ g (l.take (k + 1)) = seeS (qJ g (l.take k)) (g (gt l k)) := by
  have hg : gt l k = l[k] := by simp [gt, List.getD, hk]
  unfold qJ;rw [List.take_succ_eq_append_getElem hk, List.foldl_append, hg];rfl
structure V8 (g : Tru → Int) (l : List Tru) (s : Sp) : Prop where
  lo : ∃ t, t ∈ l ∧ g t = s.lo
  hi : ∃ t, t ∈ l ∧ g t = s.hi
  mem : ∀ t, t ∈ l → s.lo ≤ g t ∧ g t ≤ s.hi
theorem Wx (g : Tru → Int) : ∀ (l l0 : List Tru) (s : Ms), (l0 = [] ∧ s.1 = false ∨ s.1 = true ∧ V8 g l0 ⟨s.2.1, s.2.2⟩) → l0 ++ l ≠ [] →
    V8 g (l0 ++ l) ⟨(l.foldl (fun s t => seeS s (g t)) s).2.1, (l.foldl (fun s t => seeS s (g t)) s).2.2⟩ := by
  intro l
  induction l with
  | nil =>
    intro l0 s h hne;rw [List.append_nil] at hne ⊢;rcases h with ⟨h, _⟩ | ⟨_, h⟩
    · exact absurd h hne
    · exact h
  | cons t l ih =>
    intro l0 s h hne;have := ih (l0 ++ [t]) (seeS s (g t)) (.inr ⟨rfl, ?_⟩) (by simp)
    · rw [List.append_assoc] at this;exact this
    · rcases h with ⟨rfl, h⟩ | ⟨h, hs⟩
      · refine ⟨⟨t, by simp, ?_⟩, ⟨t, by simp, ?_⟩, fun u hu => ?_⟩
        · simp [seeS, h]
        · simp [seeS, h]
        · have : u = t := by simpa using hu
          subst this;simp [seeS, h]
      · obtain ⟨⟨a, ha, ha2⟩, ⟨b, hb, hb2⟩, hm⟩ := hs;simp only at ha2 hb2 hm;simp only [seeS, h, if_true];refine ⟨?_, ?_, fun u hu => ?_⟩
        · rcases Int.le_total s.2.1 (g t) with h1 | h1
          · exact ⟨a, by simp [ha], by simp only; omega⟩
          · exact ⟨t, by simp, by simp only; omega⟩
        · rcases Int.le_total s.2.2 (g t) with h1 | h1
          · exact ⟨t, by simp, by simp only; omega⟩
          · exact ⟨b, by simp [hb], by simp only; omega⟩
        · rcases List.mem_append.1 hu with hu | hu
          · have := hm u hu; simp only; omega
          · have : u = t := by simpa using hu
            subst this;simp only; omega
theorem jX (g : Tru → Int) {l : List Tru} (h : l ≠ []) : V8 g l (vW g l) := by
  have := Wx g l [] (false, 0, 0) (.inl ⟨rfl, rfl⟩) (by simpa using h);simpa [vW, qJ] using this
def zu (T : Tks) (n : Int) : Int × Int := if tksE T (isT T n) ≠ 0 then (0, tksE T (isT T n)) else (vI ((allT T).any fun t => yD T.l.length t n.toNat) ((allT T).any fun t => !yD T.l.length t n.toNat), 0)
def ze (T : Tks) (n : Int) : Sp × Sp × Int := if tksE T (isT T n) ≠ 0 then (⟨0, 0⟩, ⟨0, 0⟩, tksE T (isT T n)) else (vW (fun t => (t n.toNat).1) (allT T), vW (fun t => (t n.toNat).2) (allT T), 0)
def y7 (T : Tks) : Sp × Int := if tksE T true ≠ 0 then (⟨0, 0⟩, tksE T true) else (vW (qV T.l.length) (allT T), 0)
end Go.Ti
namespace Go.Proofs.YtejgofaeafphjaaGreatDoor
open Go.W Go.Ti
theorem zdR : zj Tryz.prog 181 [.int .i64 0, .int .i64 0] [(0, 1), (1, 1)] := ⟨⟨_, Tryz.zeroValue181, rfl⟩, _, Tryz.underlying181, fun w => by simp [Tryz.sizeOf3]⟩
abbrev zbI := SaF.mk zdR
attribute [instance] zbI
theorem zdS : zj Tryz.prog 183 [.int .i64 0, .int .i64 0] [(0, 2)] := ⟨⟨_, Tryz.zeroValue183, rfl⟩, _, Tryz.underlying183, fun w => by simp [Tryz.sizeOf181]⟩
abbrev zbJ := SaF.mk zdS
attribute [instance] zbJ
theorem kt {T : Tks} {n : Int} (h : isT T n = true) : ∃ a : Nat, n = (a : Int) ∧ a < T.l.length := by
  have := of_decide_eq_true h;exact ⟨n.toNat, by omega, by omega⟩
section
variable (T : Tks) (a1 : Option Addr) (n1 c1 : Nat) (D : Imm) (w : World) (hR : TksR D T a1 n1) (hH : Holds D w) (n : Int)
include T a1 n1 c1 D w hR hH n
theorem zc7 (hv : tksB T = false) : z8 Tryz.prog 45 [.agg #[it T.huts, .slice a1 n1 c1], it n] w (.tuple #[it (zu T n).1, it (zu T n).2]) := by
  unfold z8;obtain rfl := hR.tick.len';have hl1 := hR.len
  have hE : tksE T (isT T n) = 1 := by
    unfold tksE;rw [if_pos hv]
  have hO0 : zu T n = (0, 1) := by unfold zu; rw [if_pos (by rw [hE]; simp), hE]
  refine enD Tryz.func45 rfl Tryz.ntmps45 (Inv.start hH) (g [[1],[1,0,1]] ?_);refine WL.so (SO.box rfl rfl) rfl (zw fun b2 hb2 => ?_);refine g [[1]] ?_;refine WL.so (SO.alloc ZvF.h rfl) rfl (zw fun b5 hb5 => ?_);refine g [[3],[2,5,4,2,1]] ?_;refine WL.defer rfl (g [[3],[0,5,4,2,1]] ?_);refine WC.drawH [(b2, boxT T (.slice a1 T.l.length c1))] zk (fun _ hI => hI.tail) (g [[1000],[1001],[1002],[1005],[1006],[1007],[1008]] ?_);refine WH.one (i := 3) zk (WHo.so rfl (SO.callP CaF.h rfl (fun w hI => yS T a1 _ c1 n _ rfl hl1)) rfl (zs ⟨(fun _ hI => hI.tail), ?_⟩));refine WH.one (i := 4) zk (WHo.no rfl (SO.fail (Enters.func CaF.h rfl) (fun w hI => ZS T a1 _ c1 D _ hR hI.imm (isT T n) hv) (g [[1]] ?_)));refine WP.panicD (k := 0) [_, _] [_, _] rfl CaF.h rfl (fun w hI => kf _ _ _ _ _ (hI.own _ _ (List.mem_of_getElem? (i := 0) rfl))) rfl zV (fun w hI => ⟨congrArg Ending.returned (by rw [hO0]; rfl), hI.keep⟩)
theorem zc8 (hv : tksB T = true) (hw : isT T n = false) : z8 Tryz.prog 45 [.agg #[it T.huts, .slice a1 n1 c1], it n] w (.tuple #[it (zu T n).1, it (zu T n).2]) := by
  unfold z8;obtain rfl := hR.tick.len';have hl1 := hR.len
  have hE : tksE T (isT T n) = 2 := by
    unfold tksE;rw [if_neg (by rw [hv]; simp), if_pos hw]
  have hO0 : zu T n = (0, 2) := by unfold zu; rw [if_pos (by rw [hE]; simp), hE]
  refine enD Tryz.func45 rfl Tryz.ntmps45 (Inv.start hH) (g [[1],[1,0,1]] ?_);refine WL.so (SO.box rfl rfl) rfl (zw fun b2 hb2 => ?_);refine g [[1]] ?_;refine WL.so (SO.alloc ZvF.h rfl) rfl (zw fun b5 hb5 => ?_);refine g [[3],[2,5,4,2,1]] ?_;refine WL.defer rfl (g [[3],[0,5,4,2,1]] ?_);refine WC.drawH [(b2, boxT T (.slice a1 T.l.length c1))] zk (fun _ hI => hI.tail) (g [[1000],[1001],[1002],[1005],[1006],[1007],[1008]] ?_);refine WH.one (i := 3) zk (WHo.so rfl (SO.callP CaF.h rfl (fun w hI => yS T a1 _ c1 n _ rfl hl1)) rfl (zs ⟨(fun _ hI => hI.tail), ?_⟩));refine WH.know 10 (.bool false) rfl (congrArg Value.bool hw) ?_;refine WH.one (i := 4) zk (WHo.no rfl (SO.fail (Enters.func CaF.h rfl) (fun w hI => j2 T a1 _ c1 D _ hR hI.imm hv) (g [[1]] ?_)));refine WP.panicD (k := 0) [_, _] [_, _] rfl CaF.h rfl (fun w hI => kf _ _ _ _ _ (hI.own _ _ (List.mem_of_getElem? (i := 0) rfl))) rfl zV (fun w hI => ⟨congrArg Ending.returned (by rw [hO0]; rfl), hI.keep⟩)
theorem zc9 (hv : tksB T = true) (hw : isT T n = true) (hne : allT T = []) : z8 Tryz.prog 45 [.agg #[it T.huts, .slice a1 n1 c1], it n] w (.tuple #[it (zu T n).1, it (zu T n).2]) := by
  unfold z8;obtain rfl := hR.tick.len';have hl1 := hR.len
  have hE : tksE T (isT T n) = 10 := by
    unfold tksE;rw [if_neg (by rw [hv]; simp), if_neg (by rw [hw]; simp), if_pos (by rw [hne]; rfl)]
  have hO0 : zu T n = (0, 10) := by unfold zu; rw [if_pos (by rw [hE]; simp), hE]
  have h5 := (y8 hv).2.1;obtain ⟨a, rfl, han⟩ := kt hw;refine enD Tryz.func45 rfl Tryz.ntmps45 (Inv.start hH) (g [[1],[1,0,1]] ?_);refine WL.so (SO.box rfl rfl) rfl (zw fun b2 hb2 => ?_);refine g [[1]] ?_;refine WL.so (SO.alloc ZvF.h rfl) rfl (zw fun b5 hb5 => ?_);refine g [[3],[2,5,4,2,1]] ?_;refine WL.defer rfl (g [[3],[0,5,4,2,1]] ?_);refine WC.drawH [(b2, boxT T (.slice a1 T.l.length c1))] zk (fun _ hI => hI.tail) (g [[1000],[1001],[1002],[1005],[1006],[1007],[1008]] ?_);refine WH.one (i := 3) zk (WHo.so rfl (SO.callP CaF.h rfl (fun w hI => yS T a1 _ c1 a _ rfl hl1)) rfl (zs ⟨(fun _ hI => hI.tail), ?_⟩));refine WH.know 10 (.bool true) rfl (congrArg Value.bool hw) ?_;refine WH.one (i := 4) zk (WHo.so rfl (SO.makes (Enters.func Tryz.call88 rfl) (fun w hI => x4 T a1 _ c1 D _ hR hI.imm hv)) rfl ?_);rintro _ D2 _ ⟨hX2, ⟨bq, rfl, hO⟩, rfl⟩;have hR2 := hR.ext hX2;refine ⟨(fun _ hI => hI.tail.shrink hX2.old), ?_⟩;refine WH.one (i := 9) zk (WHo.no rfl (SO.fail (Enters.func CaF.h rfl) (fun w hI => zcc T a1 _ c1 bq D2 _ hO hR2 hI.imm hv a (by omega) hne) (g [[1]] ?_)));refine WP.panicD (k := 0) [_, _] [_, _] rfl CaF.h rfl (fun w hI => kf _ _ _ _ _ (hI.own _ _ (List.mem_of_getElem? (i := 0) rfl))) rfl zV (fun w hI => ⟨congrArg Ending.returned (by rw [hO0]; rfl), hI.keep⟩)
theorem KQ (hv : tksB T = true) (hw : isT T n = true) (hne : allT T ≠ []) : z8 Tryz.prog 45 [.agg #[it T.huts, .slice a1 n1 c1], it n] w (.tuple #[it (zu T n).1, it (zu T n).2]) := by
  unfold z8;obtain rfl := hR.tick.len';have hl1 := hR.len
  have hE : tksE T (isT T n) = 0 := by
    unfold tksE;rw [if_neg (by rw [hv]; simp), if_neg (by rw [hw]; simp), if_neg (by rw [List.isEmpty_iff]; exact hne)]
  have hO0 : zu T n = (vI ((allT T).any fun t => yD T.l.length t n.toNat) ((allT T).any fun t => !yD T.l.length t n.toNat), 0) := by unfold zu; rw [if_neg (by rw [hE]; simp)]
  have h5 := (y8 hv).2.1;obtain ⟨a, rfl, han⟩ := kt hw;refine enD Tryz.func45 rfl Tryz.ntmps45 (Inv.start hH) (g [[1],[1,0,1]] ?_);refine WL.so (SO.box rfl rfl) rfl (zw fun b2 hb2 => ?_);refine g [[1]] ?_;refine WL.so (SO.alloc ZvF.h rfl) rfl (zw fun b5 hb5 => ?_);refine g [[3],[2,5,4,2,1]] ?_;refine WL.defer rfl (g [[3],[0,5,4,2,1]] ?_);refine WC.drawH [(b2, boxT T (.slice a1 T.l.length c1))] zk (fun _ hI => hI.tail) (g [[1000],[1001],[1002],[1005],[1006],[1007],[1008]] ?_);refine WH.one (i := 3) zk (WHo.so rfl (SO.callP CaF.h rfl (fun w hI => yS T a1 _ c1 a _ rfl hl1)) rfl (zs ⟨(fun _ hI => hI.tail), ?_⟩));refine WH.know 10 (.bool true) rfl (congrArg Value.bool hw) ?_;refine WH.one (i := 4) zk (WHo.so rfl (SO.makes (Enters.func Tryz.call88 rfl) (fun w hI => x4 T a1 _ c1 D _ hR hI.imm hv)) rfl ?_);rintro _ D2 _ ⟨hX2, ⟨bq, rfl, hO⟩, rfl⟩;have hR2 := hR.ext hX2;refine ⟨(fun _ hI => hI.tail.shrink hX2.old), ?_⟩;refine WH.one (i := 9) zk (WHo.so rfl (SO.callP CaF.h rfl (fun w hI => zcd T a1 _ c1 bq D2 _ hO hR2 hI.imm hv a (by omega) hne)) rfl (zs ⟨(fun _ hI => hI.tail.shrink hX2.old), ?_⟩));refine WH.one (i := 10) zk (WHo.so rfl (SO.callP CaF.h rfl (fun w hI => Qc _ _ _)) rfl (zs ⟨(fun _ hI => hI.tail.shrink hX2.old), ?_⟩));refine WH.one (i := 11) zk (WHo.yd rfl (Yd.assign rfl) rfl ?_);refine WH.one (i := 12) zk (WHo.so rfl (SO.store 0 rfl SzF.h rfl rfl rfl rfl (zqb rfl) (za rfl)) rfl ?_);rintro _ _ _ ⟨rfl, rfl, rfl⟩;refine ⟨(fun _ hI => hI.tail.shrink hX2.old), ?_⟩;refine WH.nil zk (g [[2]] ?_);refine WP.endD [_, _] [_, _] rfl rfl CaF.h (fun w hI => zao _ _) rfl zV (fun w hI => ⟨congrArg Ending.returned (by rw [hO0]; rfl), hI.keep⟩)
theorem Ze : z8 Tryz.prog 45 [.agg #[it T.huts, .slice a1 n1 c1], it n] w (.tuple #[it (zu T n).1, it (zu T n).2]) := by
  cases hv : tksB T with
  | false => exact zc7 T a1 n1 c1 D w hR hH n hv
  | true =>
    cases hw : isT T n with
    | false => exact zc8 T a1 n1 c1 D w hR hH n hv hw
    | true =>
      by_cases hne : allT T = []
      · exact zc9 T a1 n1 c1 D w hR hH n hv hw hne
      exact KQ T a1 n1 c1 D w hR hH n hv hw hne
end
theorem SA39 : zj Tryz.prog 39 [.int .i64 0, .int .i64 0] [(0, 1), (1, 1)] := ⟨⟨_, Tryz.zeroValue39, rfl⟩, _, Tryz.underlying39, fun w => by simp [Tryz.sizeOf3]⟩
abbrev zdw := SaF.mk SA39
attribute [instance] zdw
abbrev Row := Value × Ms
def rowC (r : Row) : List Value := [r.1, .bool r.2.1, it r.2.2.1, it r.2.2.2]
theorem kO : ∀ r, (rowC r).length = 4 := fun _ => rfl
def rows (F : Nat → Row) (n : Nat) : List Row := (List.range n).map F
theorem kP (F : Nat → Row) (n : Nat) : (rows F n).length = n := by simp [rows]
theorem YS {F : Nat → Row} {n i : Nat} (hi : i < n) : gt (rows F n) i = F i := by simp [rows, gt, List.getD, hi]
theorem JJ {F : Nat → Row} {n i : Nat} (y : Row) : (rows F n).set i y = rows (fun j => if j = i then y else F j) n := by
  apply List.ext_getElem
  · simp [rows]
  intro j h1 h2;simp only [rows, List.getElem_set, List.getElem_map, List.getElem_range];by_cases e : i = j
  · subst e; simp
  rw [if_neg e, if_neg (fun h => e h.symm)]
theorem WS {F G : Nat → Row} {n : Nat} (h : ∀ i, i < n → F i = G i) : rows F n = rows G n := List.map_congr_left fun i hi => h i (List.mem_range.1 hi)
def xi (F : Nat → Row) (n : Nat) : Obj := .cells (List.toArray ((rows F n).flatMap rowC ++ [])) 372 (0, 0)
theorem wI {F G : Nat → Row} {n : Nat} (h : ∀ i, i < n → F i = G i) : xi F n = xi G n := by unfold xi; rw [WS h]
section
variable {P : Program} {x : Cx} {fr : Fr} {D : Imm} {hp : Hp} {ty : TypeId} {Q : Exit → Act → World → Prop}
section
variable {F : Nat → Row}
include F
theorem rdR {n i k b j : Nat} {r : Row} {v : Value} (hk : hp[k]? = some (b, xi F n)) (hi : i < n) (hF : F i = r) (hj : j < 4) (hv : (rowC r)[j]? = some v) : Rd D hp ⟨b, 0 + i * 4 + j, none⟩ v :=
  Rd.flat kO hk (by rw [kP]; exact hi) hj (by rw [YS hi, hF]; exact hv)
section
variable {n i b : Nat} (k : Nat) {r : Row} (hk : hp[k]? = some (b, xi F n)) (hi : i < n) (hF : F i = r)
include n i b k r hk hi hF
theorem rdR0 : Rd D hp ⟨b, 0 + i * 4 + 0, none⟩ r.1 := rdR hk hi hF (by decide) rfl
theorem rdR1 : Rd D hp ⟨b, 0 + i * 4 + 1, none⟩ (.bool r.2.1) := rdR hk hi hF (by decide) rfl
theorem rdR2 : Rd D hp ⟨b, 0 + i * 4 + 2 + 0, none⟩ (it r.2.2.1) := rdR (j := 2) hk hi hF (by decide) rfl
theorem rdR3 : Rd D hp ⟨b, 0 + i * 4 + 2 + 1, none⟩ (it r.2.2.2) := rdR (j := 3) hk hi hF (by decide) rfl
theorem rdnR : RdN D hp b (0 + i * 4) (rowC r) :=
  RdN.flat kO (j := 0) (n := 4) hk (by rw [kP]; exact hi) (by rw [YS hi, hF]; rfl)
end
theorem SO.storeR {n i k b j m : Nat} {t : TypeId} {p o : Operand} {v : Value} {vs : List Value} {r : Row} (y : Row) (hk : hp[k]? = some (b, xi F n)) (hz : ∀ w, (sizeOf t).run P w = .ok m w) 
    (hp' : opv fr p = some (.pointer (some ⟨b, 0 + i * 4 + j, none⟩))) (ho : opv fr o = some v) (hc : v.cells = vs.toArray) (hl : vs.length = m) (hi : i < n) (hF : F i = r) (hj : j + m ≤ 4) (hone : ∀ v ∈ vs, v.oneCell' = true) (hy : rowC y = splice (rowC r) j vs) :
    SO P x fr D hp (.store t p o) ty Q (SetK D hp k b (xi (fun u => if u = i then y else F u) n)) := by
  have h := SO.storeFlatN (P := P) (x := x) (fr := fr) (D := D) (hp := hp) (ty := ty) (Q := Q) kO y k hk hz hp' ho hc hl (by rw [kP]; exact hi) hj hone (by rw [YS hi, hF]; exact hy);rw [JJ] at h;exact h
end
end
structure Clo where
  fi : FuncId
  cp : List Value
  g : Tru → Int
instance : Inhabited Clo := ⟨⟨0, [], fun _ => 0⟩⟩
def cloV (c : Clo) : Value := .func (.func c.fi) #[] c.cp.toArray
def yX (D : Imm) (L : List Tru) (c : Clo) : Prop := (∀ args w, (callFunc c.fi args).run Tryz.prog w = .ok (.enter c.fi args) w) ∧ ∀ t, t ∈ L → ∀ w, Holds D w → z8 Tryz.prog c.fi (truV t :: c.cp) w (it (c.g t))
theorem yX.ext {w : World} {D D' : Imm} (hD : DExt w D D') {L : List Tru} {c : Clo} (h : yX D L c) : yX D' L c := ⟨h.1, fun t ht w' hH => h.2 t ht w' fun b o hb => hH b o (hD.old b o hb)⟩
theorem zcX (F : Nat → Row) (n i : Nat) (hi : i < n) (c : Clo) (s : Ms) (hF : F i = (cloV c, s)) (L : List Tru) (t : Tru) (htL : t ∈ L) (D : Imm) (w : World) (hC : yX D L c) (bm : Nat) (hI0 : Inv D [(bm, xi F n)] [bm] w w) : wP Tryz.prog 278 [.pointer (some ⟨bm, 0 + i * 4, none⟩), truV t] w D [bm] (fun v D' hp' => v = .tuple #[] ∧ D = D' ∧ hp' = [(bm, xi (fun j => if j = i then (cloV c, seeS s (c.g t)) else F j) n)]) := by
  unfold wP;refine en Tryz.func278 rfl Tryz.ntmps278 hI0 (g [[1],[1,0,1]] ?_);refine WL.so (SO.box rfl rfl) rfl (zw fun b3 hb3 => ?_);refine g [[3],[0,3,0],[3005],[3]] ?_;refine WQ.q rfl (Yd.qt (Yd.l1 rfl (rdR0 1 rfl hi hF))) rfl (g [[2]] ?_);refine WL.so (SO.call (Enters.val hC.1 rfl rfl) (fun w hI => hC.2 t htL _ hI.imm)) rfl (zs (g [[5],[4,4,0]] ?_));refine WL.yd (Yd.l1 rfl (rdR1 1 rfl hi hF)) rfl (g [[3]] ?_);refine WC.cond rfl (fun c15 => ?_) (fun c15 => ?_)
  · try simp only [zq] at c15
    refine g [[8,4,0]] ?_;refine WL.so (SO.storeR (k := 1) (j := 1) (cloV c, (true, s.2.1, s.2.2)) rfl SzF.h rfl rfl rfl rfl hi hF (by decide) (za rfl) rfl) rfl ?_;rintro _ _ _ ⟨rfl, rfl, rfl⟩;refine g [[2]] ?_;refine WL.so (SO.storeR (k := 1) (j := 2) (cloV c, (true, c.g t, c.g t)) rfl SzF.h rfl rfl rfl rfl hi (if_pos rfl) (by decide) (za rfl) rfl) rfl ?_;rintro _ _ _ ⟨rfl, rfl, rfl⟩;refine g [[2],[0,4,0],[3016],[5]] ?_;refine WQ.q rfl (Yd.qt (Yd.l1 rfl (rdR2 1 rfl hi (if_pos rfl)))) rfl (g [[1]] ?_);refine WQ.q rfl (Yd.qt (Yd.min2 rfl rfl)) rfl (g [[4]] ?_);refine WQ.q rfl (Yd.qt (Yd.l1 rfl (rdR3 1 rfl hi (if_pos rfl)))) rfl (g [[1]] ?_);refine WQ.q rfl (Yd.qt (Yd.max2 rfl rfl)) rfl (g [[4]] ?_);refine WL.so (SO.storeR (k := 1) (j := 2) (cloV c, (true, min (c.g t) (c.g t), max (c.g t) (c.g t))) rfl SzF.h rfl rfl rfl rfl hi (if_pos rfl) (by decide) (za rfl) rfl) rfl ?_;rintro _ _ _ ⟨rfl, rfl, rfl⟩;refine g [[1]] ?_;refine WP.ret0 rfl rfl rfl  (fun w1 hI => ⟨_, D, _, rfl, DExt.refl _ _, hI.tail, fun _ h => h, rfl, rfl, congrArg (fun o => [(bm, o)]) (wI fun u _ => by by_cases e : u = i <;> simp_all [seeS])⟩)
  try simp only [zq] at c15
  refine g [[2],[0,4,0],[3016],[5]] ?_;refine WQ.q rfl (Yd.qt (Yd.l1 rfl (rdR2 1 rfl hi hF))) rfl (g [[1]] ?_);refine WQ.q rfl (Yd.qt (Yd.min2 rfl rfl)) rfl (g [[4]] ?_);refine WQ.q rfl (Yd.qt (Yd.l1 rfl (rdR3 1 rfl hi hF))) rfl (g [[1]] ?_);refine WQ.q rfl (Yd.qt (Yd.max2 rfl rfl)) rfl (g [[4]] ?_);refine WL.so (SO.storeR (k := 1) (j := 2) (cloV c, (s.1, min s.2.1 (c.g t), max s.2.2 (c.g t))) rfl SzF.h rfl rfl rfl rfl hi hF (by decide) (za rfl) rfl) rfl ?_;rintro _ _ _ ⟨rfl, rfl, rfl⟩;refine g [[1]] ?_;refine WP.ret0 rfl rfl rfl  (fun w1 hI => ⟨_, D, _, rfl, DExt.refl _ _, hI.tail, fun _ h => h, rfl, rfl, congrArg (fun o => [(bm, o)]) (wI fun u _ => by by_cases e : u = i <;> simp_all [seeS])⟩)
def spC (s : Sp) : List Value := [it s.lo, it s.hi]
theorem UP : ∀ s, (spC s).length = 2 := fun _ => rfl
def zMs : Ms := (false, 0, 0)
theorem Yj : ∀ n, xI [.nilFunc, .bool false, .int .i64 0, .int .i64 0] (n * 4) = (rows (fun _ => ((.nilFunc, zMs) : Row)) n).flatMap rowC ++ [] := by
  intro n;rw [List.append_nil]
  induction n with
  | zero => rfl
  | succ n ih =>
    rw [show (n + 1) * 4 = n * 4 + 1 + 1 + 1 + 1 by omega];simp only [xI, List.length_cons, List.length_nil, Nat.reduceAdd];rw [ih, show (n * 4 + 1 + 1 + 1) % 4 = 3 by omega, show (n * 4 + 1 + 1) % 4 = 2 by omega, show (n * 4 + 1) % 4 = 1 by omega, show n * 4 % 4 = 0 by omega];simp [rows, List.range_succ, rowC, zMs]
def iniF (fs : List Clo) (k : Nat) (u : Nat) : Row := (if u < k then cloV (gt fs u) else .nilFunc, zMs)
def msF (fs : List Clo) (l : List Tru) (u : Nat) : Row := (cloV (gt fs u), qJ (gt fs u).g l)
def midF (fs : List Clo) (L : List Tru) (k j : Nat) (u : Nat) : Row := (cloV (gt fs u), qJ (gt fs u).g (L.take (if u < j then k + 1 else k)))
def outX (fs : List Clo) (L : List Tru) (k : Nat) : List Value := ((fs.take k).map fun c => vW c.g L).flatMap spC
theorem JD {fs : List Clo} {L : List Tru} {k : Nat} (hk : k ≤ fs.length) : (outX fs L k).length = k * 2 := by
  unfold outX;rw [zr UP, List.length_map, List.length_take, Nat.min_eq_left hk]
theorem Uw {fs : List Clo} {L : List Tru} {k : Nat} (hk : k < fs.length) : outX fs L (k + 1) = outX fs L k ++ spC (vW (gt fs k).g L) := by
  have hg : gt fs k = fs[k] := by simp [gt, List.getD, hk]
  unfold outX;rw [List.take_succ_eq_append_getElem hk, List.map_append, List.flatMap_append, hg];simp
section
variable (fs : List Clo)
include fs
theorem Xs (k : Nat) : (fun u => if u = k then ((cloV (gt fs k), zMs) : Row) else iniF fs k u) = iniF fs (k + 1) := by
  funext u;unfold iniF;by_cases h : u = k
  · subst h; rw [if_pos rfl, if_pos (by omega)]
  rw [if_neg h];by_cases h2 : u < k
  · rw [if_pos h2, if_pos (by omega)]
  rw [if_neg h2, if_neg (by omega)]
theorem U0 : xi (iniF fs fs.length) fs.length = xi (msF fs []) fs.length := wI fun i hi => by
  unfold iniF msF; rw [if_pos hi]; rfl
theorem ZO (L : List Tru) (k : Nat) : midF fs L k 0 = msF fs (L.take k) := by
  funext u;unfold midF msF; rw [if_neg (by omega)]
theorem mid_step {L : List Tru} {k : Nat} (hk : k < L.length) (j : Nat) : (fun u => if u = j then ((cloV (gt fs j), seeS (qJ (gt fs j).g (L.take k)) ((gt fs j).g (gt L k))) : Row) else midF fs L k j u) = midF fs L k (j + 1) := by
  funext u;unfold midF;by_cases h : u = j
  · subst h; rw [if_pos rfl, if_pos (by omega), Wy _ hk]
  rw [if_neg h];by_cases h2 : u < j
  · rw [if_pos h2, if_pos (by omega)]
  rw [if_neg h2, if_neg (by omega)]
theorem mid_end (L : List Tru) (k : Nat) : xi (midF fs L k fs.length) fs.length = xi (msF fs (L.take (k + 1))) fs.length := wI fun i hi => by
  unfold midF msF; rw [if_pos hi]
end
section
variable (T : Tks) (a1 : Option Addr) (n1 c1 : Nat) (q : Nat) (D : Imm) (w : World) (hO : xM D q T (.slice a1 n1 c1)) (hR : TksR D T a1 n1) (hH : Holds D w) (hv : tksB T = true) (fs : List Clo) (af : Option Addr) (nf cf : Nat) (hS : SlL D 1 (fs.map fun c => [cloV c]) af nf) (hfs : nf ≤ 100) (hC : ∀ i, i < fs.length → yX D (allT T) (gt fs i))
include T a1 n1 c1 q D w hO hR hH hv fs af nf cf hS hfs hC
theorem XV (hne : allT T ≠ []) : y6 Tryz.prog 242 [pt q, .slice af nf cf] w D (fun v D' => ∃ a c, v = .slice a fs.length c ∧ SlL D' 2 ((fs.map fun c => vW c.g (allT T)).map spC) a fs.length) := by
  unfold y6;obtain rfl := hR.tick.len';have hl1 := hR.len;obtain rfl := hS.len';refine enM Tryz.func242 rfl Tryz.ntmps242 (Inv.start hH) (g [[1],[5,0,1],[3,4,0,1]] ?_);refine WL.so (SO.makeSlice Tryz.underlying370 Tryz.sizeOf372 Tryz.typeInfo372 Tryz.zeroValue372 rfl rfl rfl (by omega) (by show 32 * ((fs.length : Nat) : Int) ≤ 2 ^ 48; omega)) rfl ?_;rintro _ _ _ ⟨b16, hb16, rfl, rfl, rfl⟩;skip;refine WL.so (SO.alloc ZvF.h rfl) rfl (zw fun b5 hb5 => ?_);refine g [[5]] ?_;refine WC.hpEq (hp' := [(b5, .cells (List.toArray [.slice (some ⟨b16, 0, none⟩) fs.length fs.length]) 370 (0, 0)), (b16, xi (iniF fs 0) fs.length)]) (by rw [show iniF fs 0 = fun _ => ((.nilFunc, zMs) : Row) from funext fun u => by unfold iniF; rw [if_neg (by omega)]]; unfold xi; rw [← Yj]; rfl) (g [[7,5,4,0,1]] ?_);refine WC.loopT [_] (fun k : Nat => [(0, pt q), (4, .slice none 0 0), (5, pt b5), (17, .slice af fs.length cf), (18, nt fs.length), (19, nt k)]) (fun k => [(b16, xi (iniF fs k) fs.length)]) (fun k => k ≤ fs.length) (fun k => fs.length - k) 0 (by omega) rfl ⟨rfl, rfl, rfl, rfl, rfl, rfl, trivial⟩ ?_;intro k hk;refine g [[1],[5,0,4,5,17,18,19]] ?_;refine WC.cond rfl (fun c20 => ?_) (fun c20 => ?_)
  · try simp only [zq] at c20
    have hkn : k < fs.length := by omega
    refine g [[5],[2,0,4,5,17,18,19]] ?_;refine WL.yd (Yd.ix rfl rfl (hS.addr k (by omega))) rfl (WL.yd (Yd.l1 rfl ((hS.at k (by omega)).rd 0 rfl)) rfl (g [[4],[4,7,6,0,4,5,17,18,19]] ?_));refine WL.yd (Yd.ix rfl rfl (rfl)) rfl (g [[1]] ?_);refine WL.so (SO.storeR (k := 1) (i := k) (j := 0) (cloV (gt fs k), zMs) rfl SzF.h rfl rfl rfl rfl hkn rfl (by decide) (za rfl) rfl) rfl ?_;rintro _ _ _ ⟨rfl, rfl, rfl⟩;refine g [[3],[4,0,4,5,17,18,19]] ?_;exact WP.againT (k + 1) (by omega) (by omega) [] _ rfl (by rw [← Xs]; rfl) ⟨rfl, rfl, rfl, rfl, rfl, rfl, trivial⟩
  try simp only [zq] at c20
  refine g [[6]] ?_;obtain rfl : k = fs.length := by omega
  rw [U0];refine g [[1,0,4,5]] ?_;refine WL.so (SO.alloc ZvF.h rfl) rfl (zw fun b8 hb8 => ?_);refine g [[5],[2,8,0,4,5]] ?_;refine WL.so (SO.makes (Enters.func Tryz.call90 rfl) (fun w hI => we q D _ hI.imm)) rfl ?_;rintro _ D1 _ ⟨hX1, ⟨bt, rfl, hbt⟩, rfl⟩;replace hO := hO.ext hX1;replace hR := hR.ext hX1;replace hC : ∀ i, i < fs.length → yX D1 (allT T) (gt fs i) := fun i hi => (hC i hi).ext hX1;refine g [[3],[0,4,5,8,31]] ?_;refine WC.rangeIterN (N := (allT T).length) (arg := fun k => truV (gt (allT T) k)) (fun w1 _ hD1 => yt T a1 _ c1 q bt D1 w1 hO hR hbt hv hD1) rfl Tryz.call177 rfl (fun k _ h => h = [(b8, .cells (List.toArray [.bool (decide (0 < k))]) 4 (0, 0)), (b5, .cells (List.toArray [.slice (some ⟨b16, 0, none⟩) fs.length fs.length]) 370 (0, 0)), (b16, xi (msF fs ((allT T).take k)) fs.length)]) (fun _ _ _ => False) (fun _ _ _ _ _ h => h) rfl ?_ ?_ ?_
  · rintro rec1 l1 Dn0 k D5 _ w1 hrec hk rfl hX5 hsz;unfold yP;replace hO := hO.ext hX5;replace hR := hR.ext hX5;replace hC : ∀ i, i < fs.length → yX D5 (allT T) (gt fs i) := fun i hi => (hC i hi).ext hX5;refine g [[1,32,4,5,8]] ?_;refine WLF.so (zn rfl) (SO.alloc ZvF.h rfl) rfl (zw fun b9 hb9 => ?_);refine g [[2]] ?_;refine WP.iterBegin 1 rfl hrec (g [[2],[5,9,4,5,8],[7,9,4,5]] ?_);refine WCF.loopT [_, _, _, _, _] (fun j : Nat => [(5, pt b5), (9, pt b9), (34, nt fs.length), (35, nt j)]) (fun j => [(b16, xi (midF fs (allT T) k j) fs.length)]) (fun j => j ≤ fs.length) (fun j => fs.length - j) 0 (by omega) (by rw [ZO]; rfl) ⟨rfl, rfl, rfl, rfl, trivial⟩ ?_;intro j hj;refine g [[1],[5,5,9,34,35]] ?_;refine WCF.cond rfl (fun c36 => ?_) (fun c36 => ?_)
    · try simp only [zq] at c36
      have hjn : j < fs.length := by omega
      refine g [[5],[5,5,9,34,35],[0,10,5,9,34,35]] ?_;refine WCF.tail 4 [0, 1, 2, 3] rfl zk zk (noLets.blk (noLets.then (noLets.then (noLets.blk (noLets.blk noLets.round))))) (g [[2]] ?_);refine WQ.q rfl (Yd.qt (Yd.ix rfl rfl (rfl))) rfl (g [[1]] ?_);refine WQ.tailR ?_;refine WLF.so (zn rfl) (SO.alters (own := [_, _, _, _, _]) (hpc := [_]) (S1 := [b16]) (fun _ h => h) (fun h => h) (fun _ h => h) (fun _ h => h) (Enters.func CaF.h rfl) (fun w1 hI => zcX (midF fs (allT T) k j) fs.length j hjn (gt fs j) (qJ (gt fs j).g ((allT T).take k)) (by unfold midF; rw [if_neg (by omega)]) (allT T) (gt (allT T) k) (yE hk) D5 w1 (hC j hjn) b16 hI)) rfl ?_;rintro _ _ _ ⟨_, _, ⟨rfl, rfl, rfl⟩, rfl⟩;refine g [[3],[4,5,9,34,35]] ?_;exact WP.againT (j + 1) (by omega) (by omega) [] _ rfl (by rw [← mid_step fs hk]; rfl) ⟨rfl, rfl, rfl, rfl, trivial⟩
    try simp only [zq] at c36
    obtain rfl : j = fs.length := by omega
    refine g [[5]] ?_;refine WP.iterOnN hrec (h1 := [_, _, _]) (fun _ h => List.mem_cons_of_mem _ h) (fun h => (List.nodup_cons.1 h).2) (DExt.refl _ _) ?_;rw [← mid_end, decide_eq_true (show 0 < k + 1 by omega)];rfl
  · rintro Dn1 D6 _ hDn1 hX6 rfl;rw [List.take_length];have hpos : 0 < (allT T).length := List.length_pos_iff.2 hne;refine g [[3],[2,4,5,8]] ?_;refine WL.know 44 (.bool true) rfl (congrArg Value.bool (decide_eq_true hpos)) (WL.cl rfl (fun w hI => xp _ _) (g [[3],[6,4,5],[7,11,4,5]] ?_));refine WC.loopT [_, _, _, _] (fun y : Nat × Option Ow => [(4, .slice none 0 0), (11, owV y.2 y.1), (46, .slice (some ⟨b16, 0, none⟩) fs.length fs.length), (47, nt fs.length), (48, nt y.1)]) (fun y => owH y.2 39 (outX fs (allT T) y.1) []) (fun y => y.1 ≤ fs.length ∧ owP w y.2 y.1 2) (fun y => fs.length - y.1) (0, none) ⟨by omega, rfl⟩ rfl ⟨rfl, rfl, rfl, rfl, rfl, trivial⟩ ?_;rintro ⟨k, o⟩ ⟨hk, ho⟩;dsimp only at hk ho;refine g [[1],[5,4,11,46,47,48]] ?_;refine WC.cond rfl (fun c49 => ?_) (fun c49 => ?_)
    · try simp only [zq] at c49
      have hkn : k < fs.length := by omega
      refine g [[5],[1,4,11,46,47,48]] ?_;refine WL.yd (Yd.ix rfl rfl (rfl)) rfl (WL.yd (Yd.lV [_, _, _, _] rfl (rdnR 3 rfl hkn rfl)) rfl ?_);refine WL.so (SO.alloc ZvF.h rfl) rfl (zw fun b13 hb13 => ?_);refine g [[3],[4,13,4,11,46,47,48]] ?_;refine WL.so (SO.buildSlice UnF.h SzF.h ZvF.h rfl rfl rfl rfl (cs := [_, _]) rfl) rfl ?_;rintro _ _ _ ⟨b55, hb55, rfl, rfl, rfl⟩;refine WL.so (SO.appendOw (o := o) (len := k) (n := 1) (xs := (outX fs (allT T) k)) (size := 2) [_] [_, _, _, _, _] [] rfl rfl Tryz.underlying28 Tryz.sizeOf39 Tryz.typeInfo39 Tryz.zeroValue39 rfl rfl rfl rfl ⟨rfl, .inr ⟨_, _, _, rfl, RdN.own (k := 0) (n := 2) rfl rfl⟩⟩ (za rfl) ho (JD hk) (by omega) (by show (2 * (_ + _) + 1000) * 16 ≤ 2 ^ 48; omega) (by omega)) rfl ?_;rintro _ _ _ ⟨u1, hu1, rfl, rfl, rfl⟩;refine g [[4],[4,11,4,46,47,48]] ?_;exact WP.againT (⟨k + 1, some u1⟩ : Nat × Option Ow) ⟨by simp only; omega, hu1⟩ (by simp only; omega) [_] _ rfl (by show _ = _ ++ owH (some u1) _ (outX fs (allT T) (k + 1)) []; rw [Uw hkn]; rfl) ⟨rfl, rfl, rfl, rfl, rfl, trivial⟩
    try simp only [zq] at c49
    refine g [[6],[1,4,11]] ?_;obtain rfl : k = fs.length := by omega
    refine WL.freezeOw (f := spC) (m := 2) UP [_, _, _, _] [] o 39 (fs.map fun c => vW c.g (allT T)) rfl (by rw [List.length_map]; exact ho) (by unfold outX; rw [List.take_length]) (fun D2 hX2 hS2 => ?_);rw [List.length_map] at hS2;refine g [[5]] ?_;refine WP.retMs [Dn1] [_, _, _] [_] [_] rfl rfl (fun _ h => h) (fun h => h) rfl zV (fun w1 hI => ⟨_, D2, rfl, hI.keep, hI.imm, (hX1.trans hX6 (Nat.le_refl _)).trans hX2 (Nat.le_refl _), owAt o, _, xg (wt ho), hS2⟩)
  rintro Dn1 c D6 _ hDn1 hX6 hff;exact hff.elim
theorem XU (hne : allT T = []) : xC Tryz.prog 242 [pt q, .slice af nf cf] w (jz 10) := by
  unfold xC;obtain rfl := hR.tick.len';have hl1 := hR.len;obtain rfl := hS.len';refine enM Tryz.func242 rfl Tryz.ntmps242 (Inv.start hH) (g [[1],[5,0,1],[3,4,0,1]] ?_);refine WL.so (SO.makeSlice Tryz.underlying370 Tryz.sizeOf372 Tryz.typeInfo372 Tryz.zeroValue372 rfl rfl rfl (by omega) (by show 32 * ((fs.length : Nat) : Int) ≤ 2 ^ 48; omega)) rfl ?_;rintro _ _ _ ⟨b16, hb16, rfl, rfl, rfl⟩;skip;refine WL.so (SO.alloc ZvF.h rfl) rfl (zw fun b5 hb5 => ?_);refine g [[5]] ?_;refine WC.hpEq (hp' := [(b5, .cells (List.toArray [.slice (some ⟨b16, 0, none⟩) fs.length fs.length]) 370 (0, 0)), (b16, xi (iniF fs 0) fs.length)]) (by rw [show iniF fs 0 = fun _ => ((.nilFunc, zMs) : Row) from funext fun u => by unfold iniF; rw [if_neg (by omega)]]; unfold xi; rw [← Yj]; rfl) (g [[7,5,4,0,1]] ?_);refine WC.loopT [_] (fun k : Nat => [(0, pt q), (4, .slice none 0 0), (5, pt b5), (17, .slice af fs.length cf), (18, nt fs.length), (19, nt k)]) (fun k => [(b16, xi (iniF fs k) fs.length)]) (fun k => k ≤ fs.length) (fun k => fs.length - k) 0 (by omega) rfl ⟨rfl, rfl, rfl, rfl, rfl, rfl, trivial⟩ ?_;intro k hk;refine g [[1],[5,0,4,5,17,18,19]] ?_;refine WC.cond rfl (fun c20 => ?_) (fun c20 => ?_)
  · try simp only [zq] at c20
    have hkn : k < fs.length := by omega
    refine g [[5],[2,0,4,5,17,18,19]] ?_;refine WL.yd (Yd.ix rfl rfl (hS.addr k (by omega))) rfl (WL.yd (Yd.l1 rfl ((hS.at k (by omega)).rd 0 rfl)) rfl (g [[4],[4,7,6,0,4,5,17,18,19]] ?_));refine WL.yd (Yd.ix rfl rfl (rfl)) rfl (g [[1]] ?_);refine WL.so (SO.storeR (k := 1) (i := k) (j := 0) (cloV (gt fs k), zMs) rfl SzF.h rfl rfl rfl rfl hkn rfl (by decide) (za rfl) rfl) rfl ?_;rintro _ _ _ ⟨rfl, rfl, rfl⟩;refine g [[3],[4,0,4,5,17,18,19]] ?_;exact WP.againT (k + 1) (by omega) (by omega) [] _ rfl (by rw [← Xs]; rfl) ⟨rfl, rfl, rfl, rfl, rfl, rfl, trivial⟩
  try simp only [zq] at c20
  refine g [[6]] ?_;obtain rfl : k = fs.length := by omega
  rw [U0];refine g [[1,0,4,5]] ?_;refine WL.so (SO.alloc ZvF.h rfl) rfl (zw fun b8 hb8 => ?_);refine g [[5],[2,8,0,4,5]] ?_;refine WL.so (SO.makes (Enters.func Tryz.call90 rfl) (fun w hI => we q D _ hI.imm)) rfl ?_;rintro _ D1 _ ⟨hX1, ⟨bt, rfl, hbt⟩, rfl⟩;replace hO := hO.ext hX1;replace hR := hR.ext hX1;replace hC : ∀ i, i < fs.length → yX D1 (allT T) (gt fs i) := fun i hi => (hC i hi).ext hX1;refine g [[3],[0,4,5,8,31]] ?_;refine WC.rangeIterN (N := (allT T).length) (arg := fun k => truV (gt (allT T) k)) (fun w1 _ hD1 => yt T a1 _ c1 q bt D1 w1 hO hR hbt hv hD1) rfl Tryz.call177 rfl (fun k _ h => h = [(b8, .cells (List.toArray [.bool (decide (0 < k))]) 4 (0, 0)), (b5, .cells (List.toArray [.slice (some ⟨b16, 0, none⟩) fs.length fs.length]) 370 (0, 0)), (b16, xi (msF fs ((allT T).take k)) fs.length)]) (fun _ _ _ => False) (fun _ _ _ _ _ h => h) rfl ?_ ?_ ?_
  · rintro rec1 l1 Dn0 k D5 _ w1 hrec hk rfl hX5 hsz;unfold yP;replace hO := hO.ext hX5;replace hR := hR.ext hX5;replace hC : ∀ i, i < fs.length → yX D5 (allT T) (gt fs i) := fun i hi => (hC i hi).ext hX5;refine g [[1,32,4,5,8]] ?_;refine WLF.so (zn rfl) (SO.alloc ZvF.h rfl) rfl (zw fun b9 hb9 => ?_);refine g [[2]] ?_;refine WP.iterBegin 1 rfl hrec (g [[2],[5,9,4,5,8],[7,9,4,5]] ?_);refine WCF.loopT [_, _, _, _, _] (fun j : Nat => [(5, pt b5), (9, pt b9), (34, nt fs.length), (35, nt j)]) (fun j => [(b16, xi (midF fs (allT T) k j) fs.length)]) (fun j => j ≤ fs.length) (fun j => fs.length - j) 0 (by omega) (by rw [ZO]; rfl) ⟨rfl, rfl, rfl, rfl, trivial⟩ ?_;intro j hj;refine g [[1],[5,5,9,34,35]] ?_;refine WCF.cond rfl (fun c36 => ?_) (fun c36 => ?_)
    · try simp only [zq] at c36
      have hjn : j < fs.length := by omega
      refine g [[5],[5,5,9,34,35],[0,10,5,9,34,35]] ?_;refine WCF.tail 4 [0, 1, 2, 3] rfl zk zk (noLets.blk (noLets.then (noLets.then (noLets.blk (noLets.blk noLets.round))))) (g [[2]] ?_);refine WQ.q rfl (Yd.qt (Yd.ix rfl rfl (rfl))) rfl (g [[1]] ?_);refine WQ.tailR ?_;refine WLF.so (zn rfl) (SO.alters (own := [_, _, _, _, _]) (hpc := [_]) (S1 := [b16]) (fun _ h => h) (fun h => h) (fun _ h => h) (fun _ h => h) (Enters.func CaF.h rfl) (fun w1 hI => zcX (midF fs (allT T) k j) fs.length j hjn (gt fs j) (qJ (gt fs j).g ((allT T).take k)) (by unfold midF; rw [if_neg (by omega)]) (allT T) (gt (allT T) k) (yE hk) D5 w1 (hC j hjn) b16 hI)) rfl ?_;rintro _ _ _ ⟨_, _, ⟨rfl, rfl, rfl⟩, rfl⟩;refine g [[3],[4,5,9,34,35]] ?_;exact WP.againT (j + 1) (by omega) (by omega) [] _ rfl (by rw [← mid_step fs hk]; rfl) ⟨rfl, rfl, rfl, rfl, trivial⟩
    try simp only [zq] at c36
    obtain rfl : j = fs.length := by omega
    refine g [[5]] ?_;refine WP.iterOnN hrec (h1 := [_, _, _]) (fun _ h => List.mem_cons_of_mem _ h) (fun h => (List.nodup_cons.1 h).2) (DExt.refl _ _) ?_;rw [← mid_end, decide_eq_true (show 0 < k + 1 by omega)];rfl
  · rintro Dn1 D6 _ hDn1 hX6 rfl;rw [List.take_length];have hpos : ¬ 0 < (allT T).length := by rw [hne]; simp
    refine g [[3],[2,4,5,8]] ?_;refine WL.know 44 (.bool false) rfl (congrArg Value.bool (decide_eq_false hpos)) (WL.nf rfl (fun w hI => xo _ _) (g [[1]] ?_));exact WP.panicMs [Dn1] [_, _, _] rfl (fun _ h => h) (fun h => h) (fun w hI => ⟨rfl, hI.keep⟩)
  rintro Dn1 c D6 _ hDn1 hX6 hff;exact hff.elim
end
theorem xq {T : Tks} (hv : tksB T = true) {t : Tru} (h : t ∈ allT T) : okTr t := fun i => by
  have hs := XE.1 h;rcases Nat.lt_or_ge i T.l.length with hi | hi
  · have h1 := ug.1 (hs.pair i hi);have h2 := (y8 hv).2.2 i hi;omega
  rw [hs.rest i hi]; simp
theorem uR (t : Tru) {i : Nat} (hi : i < 5) : slc (truC t) (0 + i * 2) 2 = [it (t i).1, it (t i).2] := by
  rcases (show i = 0 ∨ i = 1 ∨ i = 2 ∨ i = 3 ∨ i = 4 by omega) with rfl | rfl | rfl | rfl | rfl <;> rfl
section
variable (a b1 : Nat) (ha : a < 5) (D : Imm) (h1 : D b1 = some (.cells (List.toArray [nt a]) 3 (0, 0))) (t : Tru) (w : World) (hH : Holds D w)
include a b1 ha D h1 t w hH
theorem jQ : z8 Tryz.prog 352 [truV t, pt b1] w (it (t a).1) := by
  unfold z8;refine en Tryz.func352 rfl Tryz.ntmps352 (Inv.start hH) (g [[1],[1,0,1]] ?_);refine WL.so (SO.box rfl rfl) rfl (zw fun b2 hb2 => ?_);refine g [[4],[2,3,2,1]] ?_;refine WL.yd (Yd.indexA UnF.h SzF.h rfl rfl (by omega) (by omega)) rfl (g [[1]] ?_);refine WL.yd (Yd.l1 rfl (Rd.own (k := 0) rfl (uq t (i := a) (by omega)).1)) rfl (g [[4]] ?_);refine WP.ret1 rfl rfl rfl (RV.tmp rfl) (fun w hI => ⟨rfl, hI.keep⟩)
theorem jR : z8 Tryz.prog 353 [truV t, pt b1] w (it (t a).2) := by
  unfold z8;refine en Tryz.func353 rfl Tryz.ntmps353 (Inv.start hH) (g [[1],[1,0,1]] ?_);refine WL.so (SO.box rfl rfl) rfl (zw fun b2 hb2 => ?_);refine g [[4],[2,3,2,1]] ?_;refine WL.yd (Yd.indexA UnF.h SzF.h rfl rfl (by omega) (by omega)) rfl (g [[1]] ?_);refine WL.yd (Yd.l1 rfl (Rd.own (k := 0) rfl (uq t (i := a) (by omega)).2)) rfl (g [[4]] ?_);refine WP.ret1 rfl rfl rfl (RV.tmp rfl) (fun w hI => ⟨rfl, hI.keep⟩)
end
theorem Qh (T : Tks) (a1 : Option Addr) (n1 c1 b1 : Nat) (D : Imm) (hn1 : n1 = T.l.length) (h5 : T.l.length ≤ 5) (h1 : D b1 = some (boxT T (.slice a1 n1 c1))) (t : Tru) (hok : okTr t) (w : World) (hH : Holds D w) : z8 Tryz.prog 243 [truV t, pt b1] w (it (qV T.l.length t)) := by
  unfold z8;subst hn1;refine en Tryz.func243 rfl Tryz.ntmps243 (Inv.start hH) (g [[1],[1,0,1]] ?_);refine WL.so (SO.box rfl rfl) rfl (zw fun b2 hb2 => ?_);refine g [[4],[6,3,2,1],[4,4,3,2,1]] ?_;refine WL.yd (Yd.sliceArr Tryz.underlying150 Tryz.sizeOf148 rfl rfl h5) rfl (g [[5]] ?_);refine WC.loopT [] (fun k : Nat => [(4, it (qV k t)), (10, .slice (some ⟨b2, 0, none⟩) T.l.length 5), (11, nt T.l.length), (12, nt k)]) (fun _ => [(b2, .cells (List.toArray (truC t)) 150 (0, 0))]) (fun k => k ≤ T.l.length) (fun k => T.l.length - k) 0 (by omega) rfl ⟨rfl, rfl, rfl, rfl, trivial⟩ ?_;intro k hk;refine g [[1],[5,4,10,11,12]] ?_;refine WC.cond rfl (fun c13 => ?_) (fun c13 => ?_)
  · try simp only [zq] at c13
    have hk5 : k < 5 := by omega
    have hbk := hok k;refine g [[5],[1,4,10,11,12]] ?_;refine WL.yd (Yd.ix rfl rfl (rfl)) rfl (WL.yd (Yd.lV [_, _] rfl (RdN.own (k := 0) (n := 2) rfl (uR t hk5))) rfl ?_);refine WL.so (SO.alloc ZvF.h rfl) rfl (zw fun b6 hb6 => ?_);refine g [[3],[6,6,4,10,11,12]] ?_;refine WL.know 18 (it (t k).2) rfl rfl (WL.know 20 (it (t k).1) rfl rfl (g [[1]] ?_));refine WL.yd (Yd.max2 rfl rfl) rfl (g [[4],[4,4,10,11,12]] ?_);exact WP.againT (k + 1) (by omega) (by omega) [_] _ rfl rfl ⟨rfl, rfl, rfl, rfl, trivial⟩
  try simp only [zq] at c13
  obtain rfl : k = T.l.length := by omega
  refine g [[6],[6,4]] ?_;refine WP.ret1 rfl rfl rfl (RV.tmp rfl) (fun w hI => ⟨rfl, hI.keep⟩)
theorem Kp (D : Imm) (c : Clo) (b : Nat) (hb : D b = some (.cells (List.toArray [cloV c]) 319 (0, 0))) : SlL D 1 ([c].map fun c => [cloV c]) (some ⟨b, 0, none⟩) 1 :=
  SlL.ofBlock (f := fun c => [cloV c]) (l := [c]) (rest := []) (fun _ => rfl) hb
theorem Kq (D : Imm) (c d : Clo) (b : Nat) (hb : D b = some (.cells (List.toArray [cloV c, cloV d]) 319 (0, 0))) : SlL D 1 ([c, d].map fun c => [cloV c]) (some ⟨b, 0, none⟩) 2 :=
  SlL.ofBlock (f := fun c => [cloV c]) (l := [c, d]) (rest := []) (fun _ => rfl) hb
theorem cl1 {φ : Clo → Prop} {c : Clo} (h : φ c) : ∀ i, i < [c].length → φ (gt [c] i) := fun i hi => by
  obtain rfl : i = 0 := by simpa using hi
  exact h
theorem cl2 {φ : Clo → Prop} {c d : Clo} (h : φ c) (h' : φ d) : ∀ i, i < [c, d].length → φ (gt [c, d] i) := fun i hi => by
  rcases (show i = 0 ∨ i = 1 by simp at hi; omega) with rfl | rfl
  · exact h
  exact h'
section
variable (T : Tks) (a1 : Option Addr) (n1 c1 : Nat) (q : Nat) (D : Imm) (w : World) (hO : xM D q T (.slice a1 n1 c1)) (hR : TksR D T a1 n1) (hH : Holds D w) (hv : tksB T = true)
include T a1 n1 c1 q D w hO hR hH hv
section
variable (c : Clo) (b : Nat) (hb : D b = some (.cells (List.toArray [cloV c]) 319 (0, 0))) (hC : yX D (allT T) c)
include c b hb hC
theorem UR (hne : allT T ≠ []) :
    y6 Tryz.prog 242 [pt q, .slice (some ⟨b, 0, none⟩) 1 1] w D (fun v D' => ∃ a c9, v = .slice a 1 c9 ∧ SlL D' 2 ([vW c.g (allT T)].map spC) a 1) :=
  XV T a1 n1 c1 q D w hO hR hH hv [c] _ 1 1 (Kp D c b hb) (by omega) (cl1 hC) hne
theorem UQ (hne : allT T = []) :
    xC Tryz.prog 242 [pt q, .slice (some ⟨b, 0, none⟩) 1 1] w (jz 10) :=
  XU T a1 n1 c1 q D w hO hR hH hv [c] _ 1 1 (Kp D c b hb) (by omega) (cl1 hC) hne
end
section
variable (c d : Clo) (b : Nat) (hb : D b = some (.cells (List.toArray [cloV c, cloV d]) 319 (0, 0))) (hC : yX D (allT T) c) (hC' : yX D (allT T) d)
include c d b hb hC hC'
theorem jc (hne : allT T ≠ []) :
    y6 Tryz.prog 242 [pt q, .slice (some ⟨b, 0, none⟩) 2 2] w D (fun v D' => ∃ a c9, v = .slice a 2 c9 ∧ SlL D' 2 ([vW c.g (allT T), vW d.g (allT T)].map spC) a 2) :=
  XV T a1 n1 c1 q D w hO hR hH hv [c, d] _ 2 2 (Kq D c d b hb) (by omega) (cl2 hC hC') hne
theorem jb (hne : allT T = []) :
    xC Tryz.prog 242 [pt q, .slice (some ⟨b, 0, none⟩) 2 2] w (jz 10) :=
  XU T a1 n1 c1 q D w hO hR hH hv [c, d] _ 2 2 (Kq D c d b hb) (by omega) (cl2 hC hC') hne
end
end
def spV (s : Sp) : Value := .agg #[it s.lo, it s.hi]
section
variable (T : Tks) (a1 : Option Addr) (n1 c1 : Nat) (D : Imm) (w : World) (hR : TksR D T a1 n1) (hH : Holds D w)
include T a1 n1 c1 D w hR hH
theorem KR (hv : tksB T = false) : z8 Tryz.prog 184 [.agg #[it T.huts, .slice a1 n1 c1]] w (.tuple #[spV (y7 T).1, it (y7 T).2]) := by
  unfold z8;obtain rfl := hR.tick.len';have hl1 := hR.len
  have hE : tksE T true = 1 := by
    unfold tksE;rw [if_pos hv]
  have hO0 : y7 T = (⟨0, 0⟩, 1) := by unfold y7; rw [if_pos (by rw [hE]; simp), hE]
  refine enD Tryz.func184 rfl Tryz.ntmps184 (Inv.start hH) (g [[1],[1,0]] ?_);refine WL.so (SO.box rfl rfl) rfl (zw fun b1 hb1 => ?_);refine WL.so (SO.alloc ZvF.h rfl) rfl (zw fun b2 hb2 => ?_);refine WL.so (SO.alloc ZvF.h rfl) rfl (zw fun b3 hb3 => ?_);refine g [[3],[2,3,2,1]] ?_;refine WL.defer rfl (g [[3]] ?_);refine WC.freezeN 2 b1 (boxT T (.slice a1 T.l.length c1)) rfl rfl hb1 (fun D1 hX1 h1 => ?_);replace hR := hR.ext hX1;refine g [[2,3,2,1]] ?_;refine WL.nf rfl (fun w hI => ZS T a1 _ c1 _ _ hR hI.imm true hv) (g [[1]] ?_);refine WP.panicD (k := 0) [_, _] [_, _] rfl CaF.h rfl (fun w hI => Xd _ _ _ _ _ (hI.own _ _ (List.mem_of_getElem? (i := 0) rfl))) rfl zV (fun w hI => ⟨congrArg Ending.returned (by rw [hO0]; rfl), hI.keep⟩)
theorem KS (hv : tksB T = true) (hne : allT T = []) : z8 Tryz.prog 184 [.agg #[it T.huts, .slice a1 n1 c1]] w (.tuple #[spV (y7 T).1, it (y7 T).2]) := by
  unfold z8;obtain rfl := hR.tick.len';have hl1 := hR.len
  have hE : tksE T true = 10 := by
    unfold tksE;rw [if_neg (by rw [hv]; simp), if_neg (by simp), if_pos (by rw [hne]; rfl)]
  have hO0 : y7 T = (⟨0, 0⟩, 10) := by unfold y7; rw [if_pos (by rw [hE]; simp), hE]
  have h5 := (y8 hv).2.1;refine enD Tryz.func184 rfl Tryz.ntmps184 (Inv.start hH) (g [[1],[1,0]] ?_);refine WL.so (SO.box rfl rfl) rfl (zw fun b1 hb1 => ?_);refine WL.so (SO.alloc ZvF.h rfl) rfl (zw fun b2 hb2 => ?_);refine WL.so (SO.alloc ZvF.h rfl) rfl (zw fun b3 hb3 => ?_);refine g [[3],[2,3,2,1]] ?_;refine WL.defer rfl (g [[3]] ?_);refine WC.freezeN 2 b1 (boxT T (.slice a1 T.l.length c1)) rfl rfl hb1 (fun D1 hX1 h1 => ?_);replace hR := hR.ext hX1;refine g [[2,3,2,1]] ?_;refine WL.so (SO.makes (Enters.func Tryz.call88 rfl) (fun w hI => x4 T a1 _ c1 _ _ hR hI.imm hv)) rfl ?_;rintro _ D2 _ ⟨hX2, ⟨bq, rfl, hO⟩, rfl⟩;replace hR := hR.ext hX2;replace h1 := hX2.old _ _ h1;refine g [[1]] ?_;refine WL.so (SO.buildSlice UnF.h SzF.h ZvF.h rfl rfl rfl rfl (cs := [_]) rfl) rfl ?_;rintro _ _ _ ⟨b8, hb8, rfl, rfl, rfl⟩;refine WL.freezeN 0 b8 (.cells (List.toArray [cloV (⟨243, [pt b1], qV T.l.length⟩ : Clo)]) 319 (0, 0)) rfl rfl hb8 (fun D3 hX3 h8 => ?_)
  
  replace hO := hO.ext hX3;replace hR := hR.ext hX3;replace h1 := hX3.old _ _ h1;have hCW : yX D3 (allT T) (⟨243, [pt b1], qV T.l.length⟩ : Clo) := ⟨Tryz.call243, fun t ht w' hH' => Qh T a1 _ c1 b1 _ rfl h5 h1 t (xq hv ht) w' hH'⟩;refine WL.nf rfl (fun w hI => UQ T a1 _ c1 bq D3 _ hO hR hI.imm hv (⟨243, [pt b1], qV T.l.length⟩ : Clo) b8 h8 hCW hne) (g [[1]] ?_);refine WP.panicD (k := 0) [_, _] [_, _] rfl CaF.h rfl (fun w hI => Xd _ _ _ _ _ (hI.own _ _ (List.mem_of_getElem? (i := 0) rfl))) rfl zV (fun w hI => ⟨congrArg Ending.returned (by rw [hO0]; rfl), hI.keep⟩)
theorem Qu (hv : tksB T = true) (hne : allT T ≠ []) : z8 Tryz.prog 184 [.agg #[it T.huts, .slice a1 n1 c1]] w (.tuple #[spV (y7 T).1, it (y7 T).2]) := by
  unfold z8;obtain rfl := hR.tick.len';have hl1 := hR.len
  have hE : tksE T true = 0 := by
    unfold tksE;rw [if_neg (by rw [hv]; simp), if_neg (by simp), if_neg (by rw [List.isEmpty_iff]; exact hne)]
  have hO0 : y7 T = (vW (qV T.l.length) (allT T), 0) := by unfold y7; rw [if_neg (by rw [hE]; simp)]
  have h5 := (y8 hv).2.1;refine enD Tryz.func184 rfl Tryz.ntmps184 (Inv.start hH) (g [[1],[1,0]] ?_);refine WL.so (SO.box rfl rfl) rfl (zw fun b1 hb1 => ?_);refine WL.so (SO.alloc ZvF.h rfl) rfl (zw fun b2 hb2 => ?_);refine WL.so (SO.alloc ZvF.h rfl) rfl (zw fun b3 hb3 => ?_);refine g [[3],[2,3,2,1]] ?_;refine WL.defer rfl (g [[3]] ?_);refine WC.freezeN 2 b1 (boxT T (.slice a1 T.l.length c1)) rfl rfl hb1 (fun D1 hX1 h1 => ?_);replace hR := hR.ext hX1;refine g [[2,3,2,1]] ?_;refine WL.so (SO.makes (Enters.func Tryz.call88 rfl) (fun w hI => x4 T a1 _ c1 _ _ hR hI.imm hv)) rfl ?_;rintro _ D2 _ ⟨hX2, ⟨bq, rfl, hO⟩, rfl⟩;replace hR := hR.ext hX2;replace h1 := hX2.old _ _ h1;refine g [[1]] ?_;refine WL.so (SO.buildSlice UnF.h SzF.h ZvF.h rfl rfl rfl rfl (cs := [_]) rfl) rfl ?_;rintro _ _ _ ⟨b8, hb8, rfl, rfl, rfl⟩;refine WL.freezeN 0 b8 (.cells (List.toArray [cloV (⟨243, [pt b1], qV T.l.length⟩ : Clo)]) 319 (0, 0)) rfl rfl hb8 (fun D3 hX3 h8 => ?_)
  
  replace hO := hO.ext hX3;replace hR := hR.ext hX3;replace h1 := hX3.old _ _ h1;have hCW : yX D3 (allT T) (⟨243, [pt b1], qV T.l.length⟩ : Clo) := ⟨Tryz.call243, fun t ht w' hH' => Qh T a1 _ c1 b1 _ rfl h5 h1 t (xq hv ht) w' hH'⟩;refine WL.so (SO.makes (Enters.func Tryz.call242 rfl) (fun w hI => UR T a1 _ c1 bq D3 _ hO hR hI.imm hv (⟨243, [pt b1], qV T.l.length⟩ : Clo) b8 h8 hCW hne)) rfl ?_;rintro _ D4 _ ⟨hX4, ⟨a9, c9, rfl, hS9⟩, rfl⟩;refine WL.yd (Yd.ix rfl rfl (hS9.addr 0 (by omega))) rfl (WL.yd (Yd.lV [_, _] rfl ((hS9.at 0 (by omega)).rdn 0 2 rfl)) rfl (g [[5]] ?_));refine WP.endD [_, _] [_, _] rfl rfl CaF.h (fun w hI => zar _ _) rfl zV (fun w hI => ⟨congrArg Ending.returned (by rw [hO0]; rfl), hI.keep⟩)
theorem Vn : z8 Tryz.prog 184 [.agg #[it T.huts, .slice a1 n1 c1]] w (.tuple #[spV (y7 T).1, it (y7 T).2]) := by
  cases hv : tksB T with
  | false => exact KR T a1 n1 c1 D w hR hH hv
  | true =>
    by_cases hne : allT T = []
    · exact KS T a1 n1 c1 D w hR hH hv hne
    exact Qu T a1 n1 c1 D w hR hH hv hne
theorem Ve (n : Int) (hv : tksB T = false) : z8 Tryz.prog 350 [.agg #[it T.huts, .slice a1 n1 c1], it n] w (.tuple #[spV (ze T n).1, spV (ze T n).2.1, it (ze T n).2.2]) := by
  unfold z8;obtain rfl := hR.tick.len';have hl1 := hR.len
  have hE : tksE T (isT T n) = 1 := by
    unfold tksE;rw [if_pos hv]
  have hO0 : ze T n = (⟨0, 0⟩, ⟨0, 0⟩, 1) := by unfold ze; rw [if_pos (by rw [hE]; simp), hE]
  refine enD Tryz.func350 rfl Tryz.ntmps350 (Inv.start hH) (g [[1],[1,0,1]] ?_);refine WL.so (SO.box rfl rfl) rfl (zw fun b2 hb2 => ?_);refine WL.so (SO.box rfl rfl) rfl (zw fun b3 hb3 => ?_);refine WL.so (SO.alloc ZvF.h rfl) rfl (zw fun b4 hb4 => ?_);refine WL.so (SO.alloc ZvF.h rfl) rfl (zw fun b5 hb5 => ?_);refine WL.so (SO.alloc ZvF.h rfl) rfl (zw fun b6 hb6 => ?_);refine g [[3],[2,6,5,4,3,2]] ?_;refine WL.defer rfl (g [[3]] ?_);refine WC.freezeN 4 b2 (boxT T (.slice a1 T.l.length c1)) rfl rfl hb2 (fun D1 hX1 h2 => ?_);replace hR := hR.ext hX1;refine WC.freezeN 3 b3 (.cells (List.toArray [it n]) 3 (0, 0)) rfl rfl hb3 (fun D3 hX3 h3 => ?_);replace hR := hR.ext hX3;replace h2 := hX3.old _ _ h2;refine g [[0,6,5,4,3,2]] ?_;refine WC.drawH [] zk (fun _ hI => hI.drop 99) (g [[1000],[1001],[1002],[1005],[1006]] ?_);refine WH.two (i := 3) (j := 7) zk ?_ ?_
  · refine WHo.so rfl (SO.callP CaF.h rfl (fun w hI => yS T a1 _ c1 n _ rfl hl1)) rfl (zs ⟨(fun _ hI => hI.drop 99), ?_⟩);refine WH.two (i := 4) (j := 7) zk ?_ ?_
    · refine WHo.no rfl (SO.fail (Enters.func CaF.h rfl) (fun w hI => ZS T a1 _ c1 _ _ hR hI.imm (isT T n) hv) (g [[1]] ?_));refine WP.panicD (k := 0) [_, _, _] [_, _, _] rfl CaF.h rfl (fun w hI => xO _ _ _ _ _ (hI.own _ _ (List.mem_of_getElem? (i := 0) rfl))) rfl zV (fun w hI => ⟨congrArg Ending.returned (by rw [hO0]; rfl), hI.keep⟩)
    refine WHo.so rfl (SO.buildSlice UnF.h SzF.h ZvF.h rfl rfl rfl rfl (cs := [_, _]) rfl) rfl ?_;rintro _ _ _ ⟨b16, hb16, rfl, rfl, rfl⟩;refine ⟨(fun _ hI => hI.drop 99), ?_⟩;refine WH.one (i := 4) zk (WHo.no rfl (SO.fail (Enters.func CaF.h rfl) (fun w hI => ZS T a1 _ c1 _ _ hR hI.imm (isT T n) hv) (g [[1]] ?_)));refine WP.panicD (k := 1) [_, _, _] [_, _, _] rfl CaF.h rfl (fun w hI => xO _ _ _ _ _ (hI.own _ _ (List.mem_of_getElem? (i := 1) rfl))) rfl zV (fun w hI => ⟨congrArg Ending.returned (by rw [hO0]; rfl), hI.keep⟩)
  refine WHo.so rfl (SO.buildSlice UnF.h SzF.h ZvF.h rfl rfl rfl rfl (cs := [_, _]) rfl) rfl ?_;rintro _ _ _ ⟨b16, hb16, rfl, rfl, rfl⟩;refine ⟨(fun _ hI => hI.drop 99), ?_⟩;refine WH.one (i := 3) zk (WHo.so rfl (SO.callP CaF.h rfl (fun w hI => yS T a1 _ c1 n _ rfl hl1)) rfl (zs ⟨(fun _ hI => hI.drop 99), ?_⟩));refine WH.one (i := 4) zk (WHo.no rfl (SO.fail (Enters.func CaF.h rfl) (fun w hI => ZS T a1 _ c1 _ _ hR hI.imm (isT T n) hv) (g [[1]] ?_)));refine WP.panicD (k := 1) [_, _, _] [_, _, _] rfl CaF.h rfl (fun w hI => xO _ _ _ _ _ (hI.own _ _ (List.mem_of_getElem? (i := 1) rfl))) rfl zV (fun w hI => ⟨congrArg Ending.returned (by rw [hO0]; rfl), hI.keep⟩)
section
variable (n : Int) (hv : tksB T = true)
include n hv
theorem Vf (hw : isT T n = false) : z8 Tryz.prog 350 [.agg #[it T.huts, .slice a1 n1 c1], it n] w (.tuple #[spV (ze T n).1, spV (ze T n).2.1, it (ze T n).2.2]) := by
  unfold z8;obtain rfl := hR.tick.len';have hl1 := hR.len
  have hE : tksE T (isT T n) = 2 := by
    unfold tksE;rw [if_neg (by rw [hv]; simp), if_pos hw]
  have hO0 : ze T n = (⟨0, 0⟩, ⟨0, 0⟩, 2) := by unfold ze; rw [if_pos (by rw [hE]; simp), hE]
  refine enD Tryz.func350 rfl Tryz.ntmps350 (Inv.start hH) (g [[1],[1,0,1]] ?_);refine WL.so (SO.box rfl rfl) rfl (zw fun b2 hb2 => ?_);refine WL.so (SO.box rfl rfl) rfl (zw fun b3 hb3 => ?_);refine WL.so (SO.alloc ZvF.h rfl) rfl (zw fun b4 hb4 => ?_);refine WL.so (SO.alloc ZvF.h rfl) rfl (zw fun b5 hb5 => ?_);refine WL.so (SO.alloc ZvF.h rfl) rfl (zw fun b6 hb6 => ?_);refine g [[3],[2,6,5,4,3,2]] ?_;refine WL.defer rfl (g [[3]] ?_);refine WC.freezeN 4 b2 (boxT T (.slice a1 T.l.length c1)) rfl rfl hb2 (fun D1 hX1 h2 => ?_);replace hR := hR.ext hX1;refine WC.freezeN 3 b3 (.cells (List.toArray [it n]) 3 (0, 0)) rfl rfl hb3 (fun D3 hX3 h3 => ?_);replace hR := hR.ext hX3;replace h2 := hX3.old _ _ h2;refine g [[0,6,5,4,3,2]] ?_;refine WC.drawH [] zk (fun _ hI => hI.drop 99) (g [[1000],[1001],[1002],[1005],[1006]] ?_);refine WH.two (i := 3) (j := 7) zk ?_ ?_
  · refine WHo.so rfl (SO.callP CaF.h rfl (fun w hI => yS T a1 _ c1 n _ rfl hl1)) rfl (zs ⟨(fun _ hI => hI.drop 99), ?_⟩);refine WH.know 12 (.bool false) rfl (congrArg Value.bool hw) ?_;refine WH.two (i := 4) (j := 7) zk ?_ ?_
    · refine WHo.no rfl (SO.fail (Enters.func CaF.h rfl) (fun w hI => j2 T a1 _ c1 _ _ hR hI.imm hv) (g [[1]] ?_));refine WP.panicD (k := 0) [_, _, _] [_, _, _] rfl CaF.h rfl (fun w hI => xO _ _ _ _ _ (hI.own _ _ (List.mem_of_getElem? (i := 0) rfl))) rfl zV (fun w hI => ⟨congrArg Ending.returned (by rw [hO0]; rfl), hI.keep⟩)
    refine WHo.so rfl (SO.buildSlice UnF.h SzF.h ZvF.h rfl rfl rfl rfl (cs := [_, _]) rfl) rfl ?_;rintro _ _ _ ⟨b16, hb16, rfl, rfl, rfl⟩;refine ⟨(fun _ hI => hI.drop 99), ?_⟩;refine WH.one (i := 4) zk (WHo.no rfl (SO.fail (Enters.func CaF.h rfl) (fun w hI => j2 T a1 _ c1 _ _ hR hI.imm hv) (g [[1]] ?_)));refine WP.panicD (k := 1) [_, _, _] [_, _, _] rfl CaF.h rfl (fun w hI => xO _ _ _ _ _ (hI.own _ _ (List.mem_of_getElem? (i := 1) rfl))) rfl zV (fun w hI => ⟨congrArg Ending.returned (by rw [hO0]; rfl), hI.keep⟩)
  refine WHo.so rfl (SO.buildSlice UnF.h SzF.h ZvF.h rfl rfl rfl rfl (cs := [_, _]) rfl) rfl ?_;rintro _ _ _ ⟨b16, hb16, rfl, rfl, rfl⟩;refine ⟨(fun _ hI => hI.drop 99), ?_⟩;refine WH.one (i := 3) zk (WHo.so rfl (SO.callP CaF.h rfl (fun w hI => yS T a1 _ c1 n _ rfl hl1)) rfl (zs ⟨(fun _ hI => hI.drop 99), ?_⟩));refine WH.know 12 (.bool false) rfl (congrArg Value.bool hw) ?_;refine WH.one (i := 4) zk (WHo.no rfl (SO.fail (Enters.func CaF.h rfl) (fun w hI => j2 T a1 _ c1 _ _ hR hI.imm hv) (g [[1]] ?_)));refine WP.panicD (k := 1) [_, _, _] [_, _, _] rfl CaF.h rfl (fun w hI => xO _ _ _ _ _ (hI.own _ _ (List.mem_of_getElem? (i := 1) rfl))) rfl zV (fun w hI => ⟨congrArg Ending.returned (by rw [hO0]; rfl), hI.keep⟩)
theorem Vg (hw : isT T n = true) (hne : allT T = []) : z8 Tryz.prog 350 [.agg #[it T.huts, .slice a1 n1 c1], it n] w (.tuple #[spV (ze T n).1, spV (ze T n).2.1, it (ze T n).2.2]) := by
  unfold z8;obtain rfl := hR.tick.len';have hl1 := hR.len
  have hE : tksE T (isT T n) = 10 := by
    unfold tksE;rw [if_neg (by rw [hv]; simp), if_neg (by rw [hw]; simp), if_pos (by rw [hne]; rfl)]
  have hO0 : ze T n = (⟨0, 0⟩, ⟨0, 0⟩, 10) := by unfold ze; rw [if_pos (by rw [hE]; simp), hE]
  have h5 := (y8 hv).2.1;obtain ⟨a, rfl, han⟩ := kt hw;refine enD Tryz.func350 rfl Tryz.ntmps350 (Inv.start hH) (g [[1],[1,0,1]] ?_);refine WL.so (SO.box rfl rfl) rfl (zw fun b2 hb2 => ?_);refine WL.so (SO.box rfl rfl) rfl (zw fun b3 hb3 => ?_);refine WL.so (SO.alloc ZvF.h rfl) rfl (zw fun b4 hb4 => ?_);refine WL.so (SO.alloc ZvF.h rfl) rfl (zw fun b5 hb5 => ?_);refine WL.so (SO.alloc ZvF.h rfl) rfl (zw fun b6 hb6 => ?_);refine g [[3],[2,6,5,4,3,2]] ?_;refine WL.defer rfl (g [[3]] ?_);refine WC.freezeN 4 b2 (boxT T (.slice a1 T.l.length c1)) rfl rfl hb2 (fun D1 hX1 h2 => ?_);replace hR := hR.ext hX1;refine WC.freezeN 3 b3 (.cells (List.toArray [it a]) 3 (0, 0)) rfl rfl hb3 (fun D3 hX3 h3 => ?_);replace hR := hR.ext hX3;replace h2 := hX3.old _ _ h2;refine g [[0,6,5,4,3,2]] ?_;refine WC.drawH [] zk (fun _ hI => hI.drop 99) (g [[1000],[1001],[1002],[1005],[1006]] ?_);refine WH.two (i := 3) (j := 7) zk ?_ ?_
  · refine WHo.so rfl (SO.callP CaF.h rfl (fun w hI => yS T a1 _ c1 a _ rfl hl1)) rfl (zs ⟨(fun _ hI => hI.drop 99), ?_⟩);refine WH.know 12 (.bool true) rfl (congrArg Value.bool hw) ?_;refine WH.two (i := 4) (j := 7) zk ?_ ?_
    · refine WHo.so rfl (SO.makes (Enters.func Tryz.call88 rfl) (fun w hI => x4 T a1 _ c1 _ _ hR hI.imm hv)) rfl ?_;rintro _ D4 _ ⟨hX4, ⟨bq, rfl, hO⟩, rfl⟩;replace hR := hR.ext hX4;replace h3 := hX4.old _ _ h3;refine ⟨(fun _ hI => (hI.drop 99).shrink hX4.old), ?_⟩;refine WH.one (i := 7) zk (WHo.so rfl (SO.buildSlice UnF.h SzF.h ZvF.h rfl rfl rfl rfl (cs := [_, _]) rfl) rfl ?_);rintro _ _ _ ⟨b16, hb16, rfl, rfl, rfl⟩;refine ⟨(fun _ hI => (hI.drop 99).shrink hX4.old), ?_⟩;refine WH.freezeN 0 b16 (.cells (List.toArray [cloV (⟨352, [pt b3], fun t => (t a).1⟩ : Clo), cloV (⟨353, [pt b3], fun t => (t a).2⟩ : Clo)]) 319 (0, 0)) rfl rfl hb16 (fun D5 hX5 h16 => ?_)
      
      replace hO := hO.ext hX5;replace hR := hR.ext hX5;replace h3 := hX5.old _ _ h3;have hC1 : yX D5 (allT T) (⟨352, [pt b3], fun t => (t a).1⟩ : Clo) := ⟨Tryz.call352, fun t ht w' hH' => jQ a b3 (by omega) _ h3 t w' hH'⟩;have hC2 : yX D5 (allT T) (⟨353, [pt b3], fun t => (t a).2⟩ : Clo) := ⟨Tryz.call353, fun t ht w' hH' => jR a b3 (by omega) _ h3 t w' hH'⟩;refine WH.one (i := 8) zk (WHo.no rfl (SO.fail (Enters.func CaF.h rfl) (fun w hI => jb T a1 _ c1 bq D5 _ hO hR hI.imm hv (⟨352, [pt b3], fun t => (t a).1⟩ : Clo) (⟨353, [pt b3], fun t => (t a).2⟩ : Clo) b16 h16 hC1 hC2 hne) (g [[1]] ?_)));refine WP.panicD (k := 0) [_, _, _] [_, _, _] rfl CaF.h rfl (fun w hI => xO _ _ _ _ _ (hI.own _ _ (List.mem_of_getElem? (i := 0) rfl))) rfl zV (fun w hI => ⟨congrArg Ending.returned (by rw [hO0]; rfl), hI.keep⟩)
    refine WHo.so rfl (SO.buildSlice UnF.h SzF.h ZvF.h rfl rfl rfl rfl (cs := [_, _]) rfl) rfl ?_;rintro _ _ _ ⟨b16, hb16, rfl, rfl, rfl⟩;refine ⟨(fun _ hI => hI.drop 99), ?_⟩;refine WH.one (i := 4) zk (WHo.so rfl (SO.makes (Enters.func Tryz.call88 rfl) (fun w hI => x4 T a1 _ c1 _ _ hR hI.imm hv)) rfl ?_);rintro _ D4 _ ⟨hX4, ⟨bq, rfl, hO⟩, rfl⟩;replace hR := hR.ext hX4;replace h3 := hX4.old _ _ h3;refine ⟨(fun _ hI => (hI.drop 99).shrink hX4.old), ?_⟩;refine WH.freezeN 0 b16 (.cells (List.toArray [cloV (⟨352, [pt b3], fun t => (t a).1⟩ : Clo), cloV (⟨353, [pt b3], fun t => (t a).2⟩ : Clo)]) 319 (0, 0)) rfl rfl hb16 (fun D5 hX5 h16 => ?_)
      
    replace hO := hO.ext hX5;replace hR := hR.ext hX5;replace h3 := hX5.old _ _ h3;have hC1 : yX D5 (allT T) (⟨352, [pt b3], fun t => (t a).1⟩ : Clo) := ⟨Tryz.call352, fun t ht w' hH' => jQ a b3 (by omega) _ h3 t w' hH'⟩;have hC2 : yX D5 (allT T) (⟨353, [pt b3], fun t => (t a).2⟩ : Clo) := ⟨Tryz.call353, fun t ht w' hH' => jR a b3 (by omega) _ h3 t w' hH'⟩;refine WH.one (i := 8) zk (WHo.no rfl (SO.fail (Enters.func CaF.h rfl) (fun w hI => jb T a1 _ c1 bq D5 _ hO hR hI.imm hv (⟨352, [pt b3], fun t => (t a).1⟩ : Clo) (⟨353, [pt b3], fun t => (t a).2⟩ : Clo) b16 h16 hC1 hC2 hne) (g [[1]] ?_)));refine WP.panicD (k := 0) [_, _, _] [_, _, _] rfl CaF.h rfl (fun w hI => xO _ _ _ _ _ (hI.own _ _ (List.mem_of_getElem? (i := 0) rfl))) rfl zV (fun w hI => ⟨congrArg Ending.returned (by rw [hO0]; rfl), hI.keep⟩)
  refine WHo.so rfl (SO.buildSlice UnF.h SzF.h ZvF.h rfl rfl rfl rfl (cs := [_, _]) rfl) rfl ?_;rintro _ _ _ ⟨b16, hb16, rfl, rfl, rfl⟩;refine ⟨(fun _ hI => hI.drop 99), ?_⟩;refine WH.one (i := 3) zk (WHo.so rfl (SO.callP CaF.h rfl (fun w hI => yS T a1 _ c1 a _ rfl hl1)) rfl (zs ⟨(fun _ hI => hI.drop 99), ?_⟩));refine WH.know 12 (.bool true) rfl (congrArg Value.bool hw) ?_;refine WH.one (i := 4) zk (WHo.so rfl (SO.makes (Enters.func Tryz.call88 rfl) (fun w hI => x4 T a1 _ c1 _ _ hR hI.imm hv)) rfl ?_);rintro _ D4 _ ⟨hX4, ⟨bq, rfl, hO⟩, rfl⟩;replace hR := hR.ext hX4;replace h3 := hX4.old _ _ h3;refine ⟨(fun _ hI => (hI.drop 99).shrink hX4.old), ?_⟩;refine WH.freezeN 0 b16 (.cells (List.toArray [cloV (⟨352, [pt b3], fun t => (t a).1⟩ : Clo), cloV (⟨353, [pt b3], fun t => (t a).2⟩ : Clo)]) 319 (0, 0)) rfl rfl hb16 (fun D5 hX5 h16 => ?_)
    
  replace hO := hO.ext hX5;replace hR := hR.ext hX5;replace h3 := hX5.old _ _ h3;have hC1 : yX D5 (allT T) (⟨352, [pt b3], fun t => (t a).1⟩ : Clo) := ⟨Tryz.call352, fun t ht w' hH' => jQ a b3 (by omega) _ h3 t w' hH'⟩;have hC2 : yX D5 (allT T) (⟨353, [pt b3], fun t => (t a).2⟩ : Clo) := ⟨Tryz.call353, fun t ht w' hH' => jR a b3 (by omega) _ h3 t w' hH'⟩;refine WH.one (i := 8) zk (WHo.no rfl (SO.fail (Enters.func CaF.h rfl) (fun w hI => jb T a1 _ c1 bq D5 _ hO hR hI.imm hv (⟨352, [pt b3], fun t => (t a).1⟩ : Clo) (⟨353, [pt b3], fun t => (t a).2⟩ : Clo) b16 h16 hC1 hC2 hne) (g [[1]] ?_)));refine WP.panicD (k := 0) [_, _, _] [_, _, _] rfl CaF.h rfl (fun w hI => xO _ _ _ _ _ (hI.own _ _ (List.mem_of_getElem? (i := 0) rfl))) rfl zV (fun w hI => ⟨congrArg Ending.returned (by rw [hO0]; rfl), hI.keep⟩)
theorem Wm (hw : isT T n = true) (hne : allT T ≠ []) : z8 Tryz.prog 350 [.agg #[it T.huts, .slice a1 n1 c1], it n] w (.tuple #[spV (ze T n).1, spV (ze T n).2.1, it (ze T n).2.2]) := by
  unfold z8;obtain rfl := hR.tick.len';have hl1 := hR.len
  have hE : tksE T (isT T n) = 0 := by
    unfold tksE;rw [if_neg (by rw [hv]; simp), if_neg (by rw [hw]; simp), if_neg (by rw [List.isEmpty_iff]; exact hne)]
  have hO0 : ze T n = (vW (fun t => (t n.toNat).1) (allT T), vW (fun t => (t n.toNat).2) (allT T), 0) := by unfold ze; rw [if_neg (by rw [hE]; simp)]
  have h5 := (y8 hv).2.1;obtain ⟨a, rfl, han⟩ := kt hw;refine enD Tryz.func350 rfl Tryz.ntmps350 (Inv.start hH) (g [[1],[1,0,1]] ?_);refine WL.so (SO.box rfl rfl) rfl (zw fun b2 hb2 => ?_);refine WL.so (SO.box rfl rfl) rfl (zw fun b3 hb3 => ?_);refine WL.so (SO.alloc ZvF.h rfl) rfl (zw fun b4 hb4 => ?_);refine WL.so (SO.alloc ZvF.h rfl) rfl (zw fun b5 hb5 => ?_);refine WL.so (SO.alloc ZvF.h rfl) rfl (zw fun b6 hb6 => ?_);refine g [[3],[2,6,5,4,3,2]] ?_;refine WL.defer rfl (g [[3]] ?_);refine WC.freezeN 4 b2 (boxT T (.slice a1 T.l.length c1)) rfl rfl hb2 (fun D1 hX1 h2 => ?_);replace hR := hR.ext hX1;refine WC.freezeN 3 b3 (.cells (List.toArray [it a]) 3 (0, 0)) rfl rfl hb3 (fun D3 hX3 h3 => ?_);replace hR := hR.ext hX3;replace h2 := hX3.old _ _ h2;refine g [[0,6,5,4,3,2]] ?_;refine WC.drawH [] zk (fun _ hI => hI.drop 99) (g [[1000],[1001],[1002],[1005],[1006]] ?_);refine WH.two (i := 3) (j := 7) zk ?_ ?_
  · refine WHo.so rfl (SO.callP CaF.h rfl (fun w hI => yS T a1 _ c1 a _ rfl hl1)) rfl (zs ⟨(fun _ hI => hI.drop 99), ?_⟩);refine WH.know 12 (.bool true) rfl (congrArg Value.bool hw) ?_;refine WH.two (i := 4) (j := 7) zk ?_ ?_
    · refine WHo.so rfl (SO.makes (Enters.func Tryz.call88 rfl) (fun w hI => x4 T a1 _ c1 _ _ hR hI.imm hv)) rfl ?_;rintro _ D4 _ ⟨hX4, ⟨bq, rfl, hO⟩, rfl⟩;replace hR := hR.ext hX4;replace h3 := hX4.old _ _ h3;refine ⟨(fun _ hI => (hI.drop 99).shrink hX4.old), ?_⟩;refine WH.one (i := 7) zk (WHo.so rfl (SO.buildSlice UnF.h SzF.h ZvF.h rfl rfl rfl rfl (cs := [_, _]) rfl) rfl ?_);rintro _ _ _ ⟨b16, hb16, rfl, rfl, rfl⟩;refine ⟨(fun _ hI => (hI.drop 99).shrink hX4.old), ?_⟩;refine WH.freezeN 0 b16 (.cells (List.toArray [cloV (⟨352, [pt b3], fun t => (t a).1⟩ : Clo), cloV (⟨353, [pt b3], fun t => (t a).2⟩ : Clo)]) 319 (0, 0)) rfl rfl hb16 (fun D5 hX5 h16 => ?_)
      
      replace hO := hO.ext hX5;replace hR := hR.ext hX5;replace h3 := hX5.old _ _ h3;have hC1 : yX D5 (allT T) (⟨352, [pt b3], fun t => (t a).1⟩ : Clo) := ⟨Tryz.call352, fun t ht w' hH' => jQ a b3 (by omega) _ h3 t w' hH'⟩;have hC2 : yX D5 (allT T) (⟨353, [pt b3], fun t => (t a).2⟩ : Clo) := ⟨Tryz.call353, fun t ht w' hH' => jR a b3 (by omega) _ h3 t w' hH'⟩;refine WH.one (i := 8) zk (WHo.so rfl (SO.makes (Enters.func Tryz.call242 rfl) (fun w hI => jc T a1 _ c1 bq D5 _ hO hR hI.imm hv (⟨352, [pt b3], fun t => (t a).1⟩ : Clo) (⟨353, [pt b3], fun t => (t a).2⟩ : Clo) b16 h16 hC1 hC2 hne)) rfl ?_);rintro _ D6 _ ⟨hX6, ⟨a9, c9, rfl, hS9⟩, rfl⟩;refine ⟨(fun _ hI => (hI.drop 99).shrink (fun b o h => hX6.old _ _ (hX5.old _ _ (hX4.old _ _ h)))), ?_⟩;refine g [[1009]] ?_;refine WH.nil zk (g [[2],[0,7,6,5,4]] ?_);refine WC.drawD [] (pz [1,3,5,7,9,11,12,14,16]) zk zk zX (fun _ hI => hI.drop 99) (g [[1]] ?_);refine WA.yd rfl (Yd.ix rfl rfl (hS9.addr 0 (by omega))) rfl (WA.yd rfl (Yd.lV [_, _] rfl ((hS9.at 0 (by omega)).rdn 0 2 rfl)) rfl (g [[1]] ?_));refine WA.yd rfl (Yd.ix rfl rfl (hS9.addr 0 (by omega))) rfl (WA.yd rfl (Yd.lV [_, _] rfl ((hS9.at 1 (by omega)).rdn 0 2 rfl)) rfl ?_);refine WA.so rfl (SO.store 2 rfl SzF.h rfl rfl rfl rfl (zqb rfl) (za rfl)) rfl ?_;rintro _ _ _ ⟨rfl, rfl, rfl⟩;refine ⟨fun _ hI => hI.drop 99, ?_⟩;refine WA.so rfl (SO.store 1 rfl SzF.h rfl rfl rfl rfl (zqb rfl) (za rfl)) rfl ?_;rintro _ _ _ ⟨rfl, rfl, rfl⟩;refine ⟨fun _ hI => hI.drop 99, ?_⟩;refine WA.so rfl (SO.store 0 rfl SzF.h rfl rfl rfl rfl (zqb rfl) (za rfl)) rfl ?_;rintro _ _ _ ⟨rfl, rfl, rfl⟩;refine ⟨fun _ hI => hI.drop 99, ?_⟩;refine g [[3]] ?_;refine WP.endD [_, _, _] [_, _, _] rfl rfl CaF.h (fun w hI => YC _ _) rfl zV (fun w hI => ⟨congrArg Ending.returned (by rw [hO0]; rfl), hI.keep⟩)
    refine WHo.so rfl (SO.buildSlice UnF.h SzF.h ZvF.h rfl rfl rfl rfl (cs := [_, _]) rfl) rfl ?_;rintro _ _ _ ⟨b16, hb16, rfl, rfl, rfl⟩;refine ⟨(fun _ hI => hI.drop 99), ?_⟩;refine WH.one (i := 4) zk (WHo.so rfl (SO.makes (Enters.func Tryz.call88 rfl) (fun w hI => x4 T a1 _ c1 _ _ hR hI.imm hv)) rfl ?_);rintro _ D4 _ ⟨hX4, ⟨bq, rfl, hO⟩, rfl⟩;replace hR := hR.ext hX4;replace h3 := hX4.old _ _ h3;refine ⟨(fun _ hI => (hI.drop 99).shrink hX4.old), ?_⟩;refine WH.freezeN 0 b16 (.cells (List.toArray [cloV (⟨352, [pt b3], fun t => (t a).1⟩ : Clo), cloV (⟨353, [pt b3], fun t => (t a).2⟩ : Clo)]) 319 (0, 0)) rfl rfl hb16 (fun D5 hX5 h16 => ?_)
      
    replace hO := hO.ext hX5;replace hR := hR.ext hX5;replace h3 := hX5.old _ _ h3;have hC1 : yX D5 (allT T) (⟨352, [pt b3], fun t => (t a).1⟩ : Clo) := ⟨Tryz.call352, fun t ht w' hH' => jQ a b3 (by omega) _ h3 t w' hH'⟩;have hC2 : yX D5 (allT T) (⟨353, [pt b3], fun t => (t a).2⟩ : Clo) := ⟨Tryz.call353, fun t ht w' hH' => jR a b3 (by omega) _ h3 t w' hH'⟩;refine WH.one (i := 8) zk (WHo.so rfl (SO.makes (Enters.func Tryz.call242 rfl) (fun w hI => jc T a1 _ c1 bq D5 _ hO hR hI.imm hv (⟨352, [pt b3], fun t => (t a).1⟩ : Clo) (⟨353, [pt b3], fun t => (t a).2⟩ : Clo) b16 h16 hC1 hC2 hne)) rfl ?_);rintro _ D6 _ ⟨hX6, ⟨a9, c9, rfl, hS9⟩, rfl⟩;refine ⟨(fun _ hI => (hI.drop 99).shrink (fun b o h => hX6.old _ _ (hX5.old _ _ (hX4.old _ _ h)))), ?_⟩;refine g [[1009]] ?_;refine WH.nil zk (g [[2],[0,7,6,5,4]] ?_);refine WC.drawD [] (pz [1,3,5,7,9,11,12,14,16]) zk zk zX (fun _ hI => hI.drop 99) (g [[1]] ?_);refine WA.yd rfl (Yd.ix rfl rfl (hS9.addr 0 (by omega))) rfl (WA.yd rfl (Yd.lV [_, _] rfl ((hS9.at 0 (by omega)).rdn 0 2 rfl)) rfl (g [[1]] ?_));refine WA.yd rfl (Yd.ix rfl rfl (hS9.addr 0 (by omega))) rfl (WA.yd rfl (Yd.lV [_, _] rfl ((hS9.at 1 (by omega)).rdn 0 2 rfl)) rfl ?_);refine WA.so rfl (SO.store 2 rfl SzF.h rfl rfl rfl rfl (zqb rfl) (za rfl)) rfl ?_;rintro _ _ _ ⟨rfl, rfl, rfl⟩;refine ⟨fun _ hI => hI.drop 99, ?_⟩;refine WA.so rfl (SO.store 1 rfl SzF.h rfl rfl rfl rfl (zqb rfl) (za rfl)) rfl ?_;rintro _ _ _ ⟨rfl, rfl, rfl⟩;refine ⟨fun _ hI => hI.drop 99, ?_⟩;refine WA.so rfl (SO.store 0 rfl SzF.h rfl rfl rfl rfl (zqb rfl) (za rfl)) rfl ?_;rintro _ _ _ ⟨rfl, rfl, rfl⟩;refine ⟨fun _ hI => hI.drop 99, ?_⟩;refine g [[3]] ?_;refine WP.endD [_, _, _] [_, _, _] rfl rfl CaF.h (fun w hI => YC _ _) rfl zV (fun w hI => ⟨congrArg Ending.returned (by rw [hO0]; rfl), hI.keep⟩)
  refine WHo.so rfl (SO.buildSlice UnF.h SzF.h ZvF.h rfl rfl rfl rfl (cs := [_, _]) rfl) rfl ?_;rintro _ _ _ ⟨b16, hb16, rfl, rfl, rfl⟩;refine ⟨(fun _ hI => hI.drop 99), ?_⟩;refine WH.one (i := 3) zk (WHo.so rfl (SO.callP CaF.h rfl (fun w hI => yS T a1 _ c1 a _ rfl hl1)) rfl (zs ⟨(fun _ hI => hI.drop 99), ?_⟩));refine WH.know 12 (.bool true) rfl (congrArg Value.bool hw) ?_;refine WH.one (i := 4) zk (WHo.so rfl (SO.makes (Enters.func Tryz.call88 rfl) (fun w hI => x4 T a1 _ c1 _ _ hR hI.imm hv)) rfl ?_);rintro _ D4 _ ⟨hX4, ⟨bq, rfl, hO⟩, rfl⟩;replace hR := hR.ext hX4;replace h3 := hX4.old _ _ h3;refine ⟨(fun _ hI => (hI.drop 99).shrink hX4.old), ?_⟩;refine WH.freezeN 0 b16 (.cells (List.toArray [cloV (⟨352, [pt b3], fun t => (t a).1⟩ : Clo), cloV (⟨353, [pt b3], fun t => (t a).2⟩ : Clo)]) 319 (0, 0)) rfl rfl hb16 (fun D5 hX5 h16 => ?_)
    
  replace hO := hO.ext hX5;replace hR := hR.ext hX5;replace h3 := hX5.old _ _ h3;have hC1 : yX D5 (allT T) (⟨352, [pt b3], fun t => (t a).1⟩ : Clo) := ⟨Tryz.call352, fun t ht w' hH' => jQ a b3 (by omega) _ h3 t w' hH'⟩;have hC2 : yX D5 (allT T) (⟨353, [pt b3], fun t => (t a).2⟩ : Clo) := ⟨Tryz.call353, fun t ht w' hH' => jR a b3 (by omega) _ h3 t w' hH'⟩;refine WH.one (i := 8) zk (WHo.so rfl (SO.makes (Enters.func Tryz.call242 rfl) (fun w hI => jc T a1 _ c1 bq D5 _ hO hR hI.imm hv (⟨352, [pt b3], fun t => (t a).1⟩ : Clo) (⟨353, [pt b3], fun t => (t a).2⟩ : Clo) b16 h16 hC1 hC2 hne)) rfl ?_);rintro _ D6 _ ⟨hX6, ⟨a9, c9, rfl, hS9⟩, rfl⟩;refine ⟨(fun _ hI => (hI.drop 99).shrink (fun b o h => hX6.old _ _ (hX5.old _ _ (hX4.old _ _ h)))), ?_⟩;refine g [[1009]] ?_;refine WH.nil zk (g [[2],[0,7,6,5,4]] ?_);refine WC.drawD [] (pz [1,3,5,7,9,11,12,14,16]) zk zk zX (fun _ hI => hI.drop 99) (g [[1]] ?_);refine WA.yd rfl (Yd.ix rfl rfl (hS9.addr 0 (by omega))) rfl (WA.yd rfl (Yd.lV [_, _] rfl ((hS9.at 0 (by omega)).rdn 0 2 rfl)) rfl (g [[1]] ?_));refine WA.yd rfl (Yd.ix rfl rfl (hS9.addr 0 (by omega))) rfl (WA.yd rfl (Yd.lV [_, _] rfl ((hS9.at 1 (by omega)).rdn 0 2 rfl)) rfl ?_);refine WA.so rfl (SO.store 2 rfl SzF.h rfl rfl rfl rfl (zqb rfl) (za rfl)) rfl ?_;rintro _ _ _ ⟨rfl, rfl, rfl⟩;refine ⟨fun _ hI => hI.drop 99, ?_⟩;refine WA.so rfl (SO.store 1 rfl SzF.h rfl rfl rfl rfl (zqb rfl) (za rfl)) rfl ?_;rintro _ _ _ ⟨rfl, rfl, rfl⟩;refine ⟨fun _ hI => hI.drop 99, ?_⟩;refine WA.so rfl (SO.store 0 rfl SzF.h rfl rfl rfl rfl (zqb rfl) (za rfl)) rfl ?_;rintro _ _ _ ⟨rfl, rfl, rfl⟩;refine ⟨fun _ hI => hI.drop 99, ?_⟩;refine g [[3]] ?_;refine WP.endD [_, _, _] [_, _, _] rfl rfl CaF.h (fun w hI => YC _ _) rfl zV (fun w hI => ⟨congrArg Ending.returned (by rw [hO0]; rfl), hI.keep⟩)
end
theorem Vh (n : Int) : z8 Tryz.prog 350 [.agg #[it T.huts, .slice a1 n1 c1], it n] w (.tuple #[spV (ze T n).1, spV (ze T n).2.1, it (ze T n).2.2]) := by
  cases hv : tksB T with
  | false => exact Ve T a1 n1 c1 D w hR hH n hv
  | true =>
    cases hw : isT T n with
    | false => exact Vf T a1 n1 c1 D w hR hH n hv hw
    | true =>
      by_cases hne : allT T = []
      · exact Vg T a1 n1 c1 D w hR hH n hv hw hne
      exact Wm T a1 n1 c1 D w hR hH n hv hw hne
end
end Go.Proofs.YtejgofaeafphjaaGreatDoor
namespace Go.Ti
open Go.W (gt wX)
def yx (X : Till) : Bool := tksB X.tk && inB X.price 0 100 && inB X.fine 0 100 && inB X.wait 0 100
def entB (X : Till) (e : Ent) : Bool := isT X.tk e.ticket && inB e.kind 1 3
def yq (X : Till) (l : List Ent) (is : Bool) : Int := if yx X = false then 1 else if 20 < l.length then 3 else if is = false then 2 else if l.all (entB X) = false then 2 else 0
section
variable {X : Till} {l : List Ent} {is : Bool}
include X l is
theorem jj (h : yx X = false) : yq X l is = 1 := by unfold yq; rw [if_pos h]
section
variable (h : yx X = true)
include h
theorem zbj (h3 : 20 < l.length) : yq X l is = 3 := by
  unfold yq; rw [if_neg (by rw [h]; simp), if_pos h3]
section
variable (h3 : l.length ≤ 20)
include h3
theorem zbi (hi : is = false) : yq X l is = 2 := by
  unfold yq; rw [if_neg (by rw [h]; simp), if_neg (by omega), if_pos hi]
theorem Q4 {k : Nat} (hk : k < l.length) (he : entB X (gt l k) = false) : yq X l is = 2 := by
  have ha : l.all (entB X) = false := by
    rw [List.all_eq_false];exact ⟨gt l k, yE hk, by rw [he]; simp⟩
  unfold yq;rw [if_neg (by rw [h]; simp), if_neg (by omega)];cases is <;> simp [ha]
theorem Q3 (hi : is = true) (ha : ∀ k, k < l.length → entB X (gt l k) = true) : yq X l is = 0 := by
  unfold yq;rw [if_neg (by rw [h]; simp), if_neg (by omega), if_neg (by rw [hi]; simp), if_neg (by rw [wv.2 ha]; simp)]
end
end
theorem vo (h : yq X l is = 0) : yx X = true ∧ l.length ≤ 20 ∧ is = true ∧ ∀ k, k < l.length → entB X (gt l k) = true := by
  unfold yq at h;split at h
  · omega
  · split at h
    · omega
    · split at h
      · omega
      · split at h
        · omega
        · rename_i h1 h2 h3 h4
          exact ⟨by simpa using h1, by omega, by simpa using h3, wv.1 (by simpa using h4)⟩
end
theorem zat (T : Tks) : isT T (-1) = false := decide_eq_false (by omega)
theorem K1 (T : Tks) : tksE T (isT T (-1)) = if tksB T then 2 else 1 := by
  unfold tksE;rw [zat];cases tksB T <;> simp
theorem J0 {X : Till} {e : Ent} (h : entB X e = true) : ∃ a k : Nat, e.ticket = (a : Int) ∧ a < X.tk.l.length ∧ e.kind = (k : Int) ∧ 1 ≤ k ∧ k ≤ 3 := by
  unfold entB at h;rw [Bool.and_eq_true] at h;have h1 := of_decide_eq_true h.1;have h2 := of_decide_eq_true h.2;exact ⟨e.ticket.toNat, e.kind.toNat, by omega, by omega, by omega, by omega, by omega⟩
theorem uo {X : Till} (h : yx X = true) : tksB X.tk = true ∧ (0 ≤ X.price ∧ X.price ≤ 100) ∧ (0 ≤ X.fine ∧ X.fine ≤ 100) ∧ (0 ≤ X.wait ∧ X.wait ≤ 100) := by
  simp only [yx, inB, Bool.and_eq_true, decide_eq_true_eq] at h;exact ⟨h.1.1.1, h.1.1.2, h.1.2, h.2⟩
end Go.Ti
namespace Go.Proofs.YtejgofaeafphjaaGreatDoor
open Go.W Go.Ti
theorem zdO : zj Tryz.prog 156 [.int .i64 0, .slice none 0 0, .int .i64 0, .int .i64 0, .int .i64 0] [(0, 5)] := ⟨⟨_, Tryz.zeroValue156, rfl⟩, _, Tryz.underlying156, fun w => by simp [Tryz.sizeOf26]⟩
abbrev zbF := SaF.mk zdO
attribute [instance] zbF
def entC (e : Ent) : List Value := [it e.ticket, it e.kind, it e.pence]
theorem xm : ∀ e, (entC e).length = 3 := fun _ => rfl
structure xL (D : Imm) (l : List Ent) (a : Option Addr) (n : Nat) : Prop where
  ent : SlL D 3 (l.map entC) a n
  len : n ≤ 1000
theorem xL.ext {w : World} {D D' : Imm} (hD : DExt w D D') {l : List Ent} {a : Option Addr} {n : Nat} (h : xL D l a n) : xL D' l a n := ⟨h.ent.ext hD, h.len⟩
theorem xL.nil (D : Imm) : xL D [] none 0 := ⟨⟨rfl, fun i r hr => by simp at hr⟩, by omega⟩
def Q2 (X : Till) (s1 : Value) : List Value := [it X.tk.huts, s1, it X.price, it X.fine, it X.wait]
def WM (X : Till) (v : Value) (E : Int) : Ending := if E = 0 then .returned v else .panicked (UV E)
theorem wd {X : Till} {v : Value} {E F : Int} (h : E = F) (h0 : F ≠ 0) : Ending.panicked (UV F) = WM X v E := by
  subst h; unfold WM; rw [if_neg h0]
theorem JB {X : Till} {v : Value} {E : Int} (h : E = 0) : Ending.returned v = WM X v E := by
  unfold WM; rw [if_pos h]
theorem Ud (X : Till) (a1 : Option Addr) (n1 c1 : Nat) (w : World) : z8 Tryz.prog 146 [.agg #[it X.tk.huts, .slice a1 n1 c1, it X.price, it X.fine, it X.wait]] w (nt n1) := by
  unfold z8;refine en Tryz.func146 rfl Tryz.ntmps146 zI (g [[1],[1,0]] ?_);refine WL.so (SO.box rfl rfl) rfl (zw fun b1 hb1 => ?_);refine g [[4],[10,2,1]] ?_;refine WP.ret1 rfl rfl rfl (RV.tmp rfl) (fun w hI => ⟨rfl, hI.keep⟩)
theorem ZE (X : Till) (a1 : Option Addr) (n1 c1 : Nat) (n : Int) (w : World) (hn : n1 = X.tk.l.length) (hl : n1 ≤ 1000) : z8 Tryz.prog 183 [.agg #[it X.tk.huts, .slice a1 n1 c1, it X.price, it X.fine, it X.wait], it n] w (.bool (isT X.tk n)) := by
  unfold z8;refine en Tryz.func183 rfl Tryz.ntmps183 zI (g [[1],[1,0,1]] ?_);refine WL.so (SO.box rfl rfl) rfl (zw fun b2 hb2 => ?_);refine g [[4],[3,4,2,1]] ?_;refine WL.cl rfl (fun w hI => Ud X a1 _ c1 _) (g [[1]] ?_);refine WL.cl rfl (fun w hI => vu _ _ _ _) (g [[4]] ?_);refine WP.ret1 rfl rfl rfl (RV.tmp rfl) (fun w hI => ⟨zb (by subst hn; rfl), hI.keep⟩)
theorem wa (v : Value) (X : Till) (a1 : Option Addr) (n1 c1 : Nat) (w : World) : z8 Tryz.prog 98 [.agg #[it X.tk.huts, .slice a1 n1 c1, it X.price, it X.fine, it X.wait]] w (.bool true) := by
  unfold z8;refine en Tryz.func98 rfl Tryz.ntmps98 zI (g [[1],[1,0]] ?_);refine WL.so (SO.box rfl rfl) rfl (zw fun b1 hb1 => ?_);refine g [[4],[5,2]] ?_;refine WP.ret1 rfl rfl rfl (RV.tmp rfl) (fun w hI => ⟨rfl, hI.keep⟩)
theorem znu (X : Till) (a1 : Option Addr) (n1 c1 b1 : Nat) (n : Int) (D : Imm) (h1 : D b1 = some (.cells (List.toArray [it n]) 3 (0, 0))) (hn : n1 = X.tk.l.length) (hl1 : n1 ≤ 1000) (w : World) (hH : Holds D w) : z8 Tryz.prog 265 [.agg #[it X.tk.huts, .slice a1 n1 c1, it X.price, it X.fine, it X.wait], pt b1] w (.bool (isT X.tk n)) := by
  unfold z8;subst hn;refine en Tryz.func265 rfl Tryz.ntmps265 (Inv.start hH) (g [[1],[1,0,1]] ?_);refine WL.so (SO.box rfl rfl) rfl (zw fun b2 hb2 => ?_);refine g [[4],[3,3,2,1]] ?_;refine WL.cl rfl (fun w hI => ZE X a1 _ c1 n _ rfl hl1) (g [[4]] ?_);refine WP.ret1 rfl rfl rfl (RV.tmp rfl) (fun w hI => ⟨rfl, hI.keep⟩)
theorem Us (X : Till) (a1 : Option Addr) (n1 c1 : Nat) (D : Imm) (w : World) (hR : TksR D X.tk a1 n1) (hH : Holds D w) (l : List Ent) (ab : Option Addr) (nb cb : Nat) (hB : xL D l ab nb) (fi : FuncId) (cp : List Value) (is : Bool) (hfi : ∀ args w, (callFunc fi args).run Tryz.prog w = .ok (.enter fi args) w) (hIs : ∀ w', Holds D w' → z8 Tryz.prog fi (.agg #[it X.tk.huts, .slice a1 n1 c1, it X.price, it X.fine, it X.wait] :: cp) w' (.bool is)) : Calls Tryz.prog 97 (List.toArray [.agg #[it X.tk.huts, .slice a1 n1 c1, it X.price, it X.fine, it X.wait], .slice ab nb cb, .func (.func fi) #[] cp.toArray]) w fun e w' => e = WM X (.agg #[it X.tk.huts, .slice a1 n1 c1, it X.price, it X.fine, it X.wait]) (yq X l is) ∧ Keep [] w w' := by
  obtain rfl := hR.tick.len';have hl1 := hR.len;obtain rfl := hB.ent.len';have hlb := hB.len
  have hTu : (zu X.tk (-1)).2 = if tksB X.tk then 2 else 1 := by
    have h0 := K1 X.tk;unfold zu;rw [if_pos (by rw [h0]; cases tksB X.tk <;> simp)];exact h0
  refine en Tryz.func97 rfl Tryz.ntmps97 (Inv.start hH) (g [[1],[1,0,1,2]] ?_);refine WL.so (SO.box rfl rfl) rfl (zw fun b3 hb3 => ?_);refine WL.so (SO.alloc ZvF.h rfl) rfl (zw fun b6 hb6 => ?_);refine g [[3],[3,6,3,1,2]] ?_;refine WL.so (SO.alloc ZvF.h rfl) rfl (zw fun b7 hb7 => ?_);refine g [[4],[3,7,6,3,1,2]] ?_;refine WL.cl rfl (fun w hI => Ze X.tk a1 _ c1 D _ hR hI.imm (-1)) (g [[3]] ?_);refine WL.know 19 (it (if tksB X.tk then 2 else 1)) rfl (by rw [← hTu]; rfl) (g [[5],[4,9,7,6,3,1,2]] ?_);refine WL.part 22 rfl (fun g22 => ?_) (fun g22 => ?_)
  · try simp only [zq] at g22
    refine g [[2]] ?_;refine WL.sog rfl (SO.callP CaF.h rfl (fun w hI => vu _ _ _ _)) rfl (zs (g [[2]] ?_));refine WL.part 27 rfl (fun g27 => ?_) (fun g27 => ?_)
    · refine g [[2]] ?_;refine WL.sog rfl (SO.callP CaF.h rfl (fun w hI => vu _ _ _ _)) rfl (zs (g [[2]] ?_));refine WL.part 32 rfl (fun g32 => ?_) (fun g32 => ?_)
      · refine g [[2]] ?_;refine WL.sog rfl (SO.callP CaF.h rfl (fun w hI => vu _ _ _ _)) rfl (zs (g [[1]] ?_));refine WL.part 36 rfl (fun g36 => ?_) (fun g36 => ?_)
        · refine WL.cl rfl (fun w hI => uc _ _) (g [[3],[1,7,6,1,2]] ?_);have hb1 : yx X = true := by simp [yx]; simp_all
          refine g [[3]] ?_;refine WL.part 40 rfl (fun g40 => ?_) (fun g40 => ?_)
          · try simp only [zq] at g40
            refine WL.cl rfl (fun w hI => uc _ _) (g [[3],[3,7,6,1,2]] ?_);refine WL.so (SO.call (Enters.val hfi rfl rfl) (fun w hI => hIs _ hI.imm)) rfl (zs ?_);refine WL.part 44 rfl (fun g44 => ?_) (fun g44 => ?_)
            · refine WL.cl rfl (fun w hI => uc _ _) (g [[4],[7,7,6,1]] ?_);refine WC.loopF (fun k : Nat => [(6, pt b6), (7, pt b7), (46, .slice ab l.length cb), (47, nt l.length), (48, nt k)]) (fun k => k ≤ l.length ∧ ∀ i, i < k → entB X (gt l i) = true) (fun k => l.length - k) 0 ⟨by omega, by intro i hi; omega⟩ ⟨rfl, rfl, rfl, rfl, rfl, trivial⟩ ?_;intro k ⟨hk, hd⟩;refine g [[1],[5,6,7,46,47,48]] ?_;refine WC.cond rfl (fun c49 => ?_) (fun c49 => ?_)
              · try simp only [zq] at c49
                have hkl : k < l.length := by omega
                refine g [[5],[1,6,7,46,47,48]] ?_;refine WL.yd (Yd.ix rfl rfl (hB.ent.addr k (by omega))) rfl (WL.yd (Yd.lV [_, _, _] rfl ((hB.ent.at k (by omega)).rdn 0 3 rfl)) rfl ?_);refine WL.so (SO.alloc ZvF.h rfl) rfl (zw fun b11 hb11 => ?_);refine g [[3],[4,11,6,7,46,47,48]] ?_;refine WL.cl rfl (fun w hI => ZE X a1 _ c1 _ _ rfl hl1) (g [[1]] ?_);refine WL.part 56 rfl (fun g56 => ?_) (fun g56 => ?_)
                · refine g [[2]] ?_;refine WL.sog rfl (SO.callP CaF.h rfl (fun w hI => vu _ _ _ _)) rfl (zs (g [[1]] ?_));refine WL.part 60 rfl (fun g60 => ?_) (fun g60 => ?_)
                  · refine WL.cl rfl (fun w hI => uc _ _) (g [[3],[4,6,7,46,47,48]] ?_);exact WP.againF (k + 1) ⟨by omega, zZ hd (by simp [entB]; simp_all)⟩ (by omega) ⟨rfl, rfl, rfl, rfl, rfl, trivial⟩ (fun _ h => List.mem_cons_of_mem _ h) (fun h => (List.nodup_cons.1 h).2)
                  refine WL.nf rfl (fun w hI => xQ _ _) (g [[5]] ?_);refine WP.panicBody rfl (fun w hI => ⟨?_, hI.keep⟩);exact wd (Q4 hb1 (by omega) hkl (by simp [entB]; simp_all)) (by decide)
                refine g [[4]] ?_;refine WL.nf rfl (fun w hI => xQ _ _) (g [[5]] ?_);refine WP.panicBody rfl (fun w hI => ⟨?_, hI.keep⟩);exact wd (Q4 hb1 (by omega) hkl (by simp [entB]; simp_all)) (by decide)
              try simp only [zq] at c49
              obtain rfl : k = l.length := by omega
              refine g [[6],[6,6,7]] ?_;refine WP.ret1 rfl rfl rfl (RV.cellN AgF.h SzF.h rfl (vs := [_, _, _, _, _]) rfl (RdN.own (k := 1) (n := 5) rfl rfl)) (fun w hI => ⟨JB (Q3 hb1 (by omega) g44 hd), hI.keep⟩)
            refine WL.nf rfl (fun w hI => xQ _ _) (g [[1]] ?_);refine WP.panicBody rfl (fun w hI => ⟨?_, hI.keep⟩);exact wd (zbi hb1 (by omega) g44) (by decide)
          try simp only [zq] at g40
          refine WL.nf rfl (fun w hI => xQ _ _) (g [[1]] ?_);refine WP.panicBody rfl (fun w hI => ⟨?_, hI.keep⟩);exact wd (zbj hb1 (by omega)) (by decide)
        refine WL.nf rfl (fun w hI => xQ _ _) (g [[1]] ?_);refine WP.panicBody rfl (fun w hI => ⟨?_, hI.keep⟩)
        exact wd (jj (by cases hbb : yx X with
          | false => rfl
          | true => simp [yx] at hbb; simp_all)) (by decide)
      refine g [[4]] ?_;refine WL.nf rfl (fun w hI => xQ _ _) (g [[1]] ?_);refine WP.panicBody rfl (fun w hI => ⟨?_, hI.keep⟩)
      exact wd (jj (by cases hbb : yx X with
        | false => rfl
        | true => simp [yx] at hbb; simp_all)) (by decide)
    refine g [[9]] ?_;refine WL.nf rfl (fun w hI => xQ _ _) (g [[1]] ?_);refine WP.panicBody rfl (fun w hI => ⟨?_, hI.keep⟩)
    exact wd (jj (by cases hbb : yx X with
      | false => rfl
      | true => simp [yx] at hbb; simp_all)) (by decide)
  try simp only [zq] at g22
  refine g [[14]] ?_;refine WL.nf rfl (fun w hI => xQ _ _) (g [[1]] ?_);refine WP.panicBody rfl (fun w hI => ⟨?_, hI.keep⟩)
  exact wd (jj (by cases hbb : yx X with
    | false => rfl
    | true => simp [yx] at hbb; simp_all)) (by decide)
end Go.Proofs.YtejgofaeafphjaaGreatDoor
namespace Go.Ti
open Go.W (gt wX)
theorem Q5 {T : Tks} {is : Bool} (h : tksE T is = 0) : tksB T = true ∧ is = true ∧ allT T ≠ [] := by
  unfold tksE at h;split at h
  · omega
  · split at h
    · omega
    · split at h
      · omega
      · rename_i h1 h2 h3
        exact ⟨by simpa using h1, by simpa using h2, fun e => h3 (by rw [e]; rfl)⟩
theorem kU {T : Tks} (hv : tksB T = true) {t : Tru} (h : t ∈ allT T) {i : Nat} (hi : i < T.l.length) :
    (0 ≤ (t i).1 ∧ (t i).1 ≤ 240) ∧ (0 ≤ (t i).2 ∧ (t i).2 ≤ 240) ∧ (t i).1 ≤ (t i).2 := by
  have h1 := ug.1 ((XE.1 h).pair i hi);have h2 := (y8 hv).2.2 i hi;omega
theorem zcv {T : Tks} {n : Int} (h : isT T n = true) : n.toNat < T.l.length ∧ n = (n.toNat : Int) := by
  have := of_decide_eq_true h;omega
theorem j0 (T : Tks) (n : Int) : (0 ≤ (ze T n).1.lo ∧ (ze T n).1.lo ≤ (ze T n).1.hi ∧ (ze T n).1.hi ≤ 240) ∧ (0 ≤ (ze T n).2.1.lo ∧ (ze T n).2.1.lo ≤ (ze T n).2.1.hi ∧ (ze T n).2.1.hi ≤ 240) ∧ (ze T n).1.lo ≤ (ze T n).2.1.hi := by
  unfold ze;split
  · simp
  · rename_i h
    obtain ⟨hv, hi, hne⟩ := Q5 (T := T) (is := isT T n) (by omega);have hlt := (zcv hi).1;obtain ⟨⟨t1, m1, e1⟩, ⟨t2, m2, e2⟩, h1⟩ := jX (fun t => (t n.toNat).1) hne;obtain ⟨⟨t3, m3, e3⟩, ⟨t4, m4, e4⟩, h2⟩ := jX (fun t => (t n.toNat).2) hne;have a1 := kU hv m1 hlt;have a2 := kU hv m2 hlt;have a3 := kU hv m3 hlt;have a4 := kU hv m4 hlt;have b1 := h1 t1 m1;have b2 := h2 t1 m1;have b4 := h2 t4 m4;simp only at *;omega
def yj (T : Tks) (n : Int) : Sp := ⟨max 0 ((ze T n).2.1.lo - (ze T n).1.hi) / 10, ((ze T n).2.1.hi - (ze T n).1.lo) / 10⟩
theorem Yb (T : Tks) (n : Int) : 0 ≤ (yj T n).lo ∧ (yj T n).lo ≤ 24 ∧ 0 ≤ (yj T n).hi ∧ (yj T n).hi ≤ 24 := by
  have := j0 T n;unfold yj;simp only;omega
def zb2 (X : Till) : Sp := ⟨X.price, X.price⟩
def zcq (X : Till) (n : Int) : Sp := ⟨if (zu X.tk n).1 ≠ 0 then 0 else X.fine, if (zu X.tk n).1 = 2 then 0 else X.fine⟩
def zce (X : Till) (n : Int) : Sp := ⟨X.wait * (yj X.tk n).lo, X.wait * (yj X.tk n).hi⟩
def wF (X : Till) (n m : Int) : Bool := decide (m = X.price) && isT X.tk n
def qI (X : Till) (n m : Int) : Bool := decide ((zu X.tk n).1 ≠ 2) && (decide (m = X.fine) && isT X.tk n)
def Yl (X : Till) (n m : Int) : Bool := (rng (yj X.tk n).lo (yj X.tk n).hi).any fun k => decide (k * X.wait = m)
def zd2 (X : Till) (n : Int) : Nat → Sp
  | 1 => zb2 X
  | 2 => zcq X n
  | _ => zce X n
def Zm (X : Till) (n m : Int) : Nat → Bool
  | 1 => wF X n m
  | 2 => qI X n m
  | _ => Yl X n m
theorem Ug {a k : Int} (ha : 0 ≤ a ∧ a ≤ 100) (hk : 0 ≤ k ∧ k ≤ 24) : 0 ≤ a * k ∧ a * k ≤ 2400 := by
  refine ⟨Int.mul_nonneg ha.1 hk.1, ?_⟩;have h1 : a * k ≤ 100 * k := Int.mul_le_mul_of_nonneg_right ha.2 hk.1;omega
def zms (X : Till) (n : Int) : Int := if yq X [] (isT X.tk n) ≠ 0 then yq X [] (isT X.tk n) else tksE X.tk true
def yg (X : Till) : Int × Int := if yx X = false then (0, 1) else (X.price * X.tk.l.length, 0)
def zmp (X : Till) (n : Int) : Sp × Int := if zms X n ≠ 0 then (⟨0, 0⟩, zms X n) else (zce X n, 0)
def uQ (X : Till) (l : List Ent) : Int := if yq X l true ≠ 0 then yq X l true else tksE X.tk true
end Go.Ti
namespace Go.Proofs.YtejgofaeafphjaaGreatDoor
open Go.W Go.Ti
theorem ze6 : zj Tryz.prog 321 [] [] := ⟨⟨_, Tryz.zeroValue321, rfl⟩, _, Tryz.underlying321, fun w => by simp []⟩
abbrev zbX := SaF.mk ze6
attribute [instance] zbX
theorem ze7 : zj Tryz.prog 323 [] [(0, 0)] := ⟨⟨_, Tryz.zeroValue323, rfl⟩, _, Tryz.underlying323, fun w => by simp [Tryz.sizeOf321]⟩
abbrev zbY := SaF.mk ze7
attribute [instance] zbY
theorem ze8 : zj Tryz.prog 324 [] [] := ⟨⟨_, Tryz.zeroValue324, rfl⟩, _, Tryz.underlying324, fun w => by simp []⟩
abbrev zbZ := SaF.mk ze8
attribute [instance] zbZ
def zcz : Value := .agg #[.nilIface, .iface 321 (.agg #[]), .iface 323 (.agg #[]), .iface 324 (.agg #[])]
section
variable (X : Till) (a1 : Option Addr) (n1 c1 : Nat) (D : Imm) (w : World) (hR : TksR D X.tk a1 n1) (hH : Holds D w)
include X a1 n1 c1 D w hR hH
theorem Qb (h : (y7 X.tk).2 = 0) : z8 Tryz.prog 99 [.agg #[it X.tk.huts, .slice a1 n1 c1, it X.price, it X.fine, it X.wait]] w (.agg #[it X.tk.huts, .slice a1 n1 c1, it X.price, it X.fine, it X.wait]) := by
  unfold z8;obtain rfl := hR.tick.len';have hl1 := hR.len;refine en Tryz.func99 rfl Tryz.ntmps99 (Inv.start hH) (g [[1],[1,0]] ?_);refine WL.so (SO.box rfl rfl) rfl (zw fun b1 hb1 => ?_);refine WL.so (SO.alloc ZvF.h rfl) rfl (zw fun b2 hb2 => ?_);refine g [[3],[4,2,1]] ?_;refine WL.cl rfl (fun w hI => Vn X.tk a1 _ c1 D _ hR hI.imm) (g [[3]] ?_);refine WL.so (SO.alloc ZvF.h rfl) rfl (zw fun b3 hb3 => ?_);refine g [[5],[4,4,2,1]] ?_;refine WL.part 13 rfl (fun g13 => ?_) (fun g13 => ?_)
  · try simp only [zq] at g13
    refine WL.cl rfl (fun w hI => uc _ _) (g [[3],[6,2,1]] ?_);refine WP.ret1 rfl rfl rfl (RV.cellN AgF.h SzF.h rfl (vs := [_, _, _, _, _]) rfl (RdN.own (k := 1) (n := 5) rfl rfl)) (fun w hI => ⟨rfl, hI.keep⟩)
  try simp only [zq] at g13
  exact (g13 h).elim
theorem Qa (h : (y7 X.tk).2 ≠ 0) : xC Tryz.prog 99 [.agg #[it X.tk.huts, .slice a1 n1 c1, it X.price, it X.fine, it X.wait]] w (UV (y7 X.tk).2) := by
  unfold xC;obtain rfl := hR.tick.len';have hl1 := hR.len;refine en Tryz.func99 rfl Tryz.ntmps99 (Inv.start hH) (g [[1],[1,0]] ?_);refine WL.so (SO.box rfl rfl) rfl (zw fun b1 hb1 => ?_);refine WL.so (SO.alloc ZvF.h rfl) rfl (zw fun b2 hb2 => ?_);refine g [[3],[4,2,1]] ?_;refine WL.cl rfl (fun w hI => Vn X.tk a1 _ c1 D _ hR hI.imm) (g [[3]] ?_);refine WL.so (SO.alloc ZvF.h rfl) rfl (zw fun b3 hb3 => ?_);refine g [[5],[4,4,2,1]] ?_;refine WL.part 13 rfl (fun g13 => ?_) (fun g13 => ?_)
  · try simp only [zq] at g13
    exact (h g13).elim
  try simp only [zq] at g13
  refine WL.nf rfl (fun w hI => xQ _ _) (g [[1]] ?_);refine WP.panicBody rfl (fun w hI => ⟨rfl, hI.keep⟩)
end
theorem zav (w : World) : z8 Tryz.prog 186 [] w zcz := by
  unfold z8;refine en Tryz.func186 rfl Tryz.ntmps186 zI (g [[1]] ?_);refine WC.ofFr [] trivial (g [[1]] ?_);refine WL.so (SO.alloc ZvF.h rfl) rfl (zw fun b0 hb0 => ?_);refine g [[3],[7,0]] ?_;refine WL.yd (Yd.buildA (zs := [.nilIface, .nilIface, .nilIface, .nilIface]) ⟨_, ZvF.h, rfl⟩ UnF.h SzF.h rfl (cs := [_, _, _, _]) rfl) rfl (g [[4]] ?_);refine WP.ret1 rfl rfl rfl (RV.cellN AgF.h SzF.h rfl (vs := [_, _, _, _]) rfl (RdN.own (k := 0) (n := 4) rfl rfl)) (fun w hI => ⟨rfl, hI.keep⟩)
section
variable (X : Till) (a1 : Option Addr) (n1 c1 : Nat)
include X a1 n1 c1
theorem jT (n m : Int) (w : World) (hn : n1 = X.tk.l.length) (hl1 : n1 ≤ 1000) : z8 Tryz.prog 343 [.agg #[], .agg #[it X.tk.huts, .slice a1 n1 c1, it X.price, it X.fine, it X.wait], it n, it m] w (.bool (wF X n m)) := by
  unfold z8;subst hn;refine en Tryz.func343 rfl Tryz.ntmps343 zI (g [[1],[1,0,1,2,3]] ?_);refine WL.so (SO.box rfl rfl) rfl (zw fun b4 hb4 => ?_);refine WL.so (SO.box rfl rfl) rfl (zw fun b5 hb5 => ?_);refine g [[4],[7,8,5,2,3]] ?_;refine WL.part 14 rfl (fun g14 => ?_) (fun g14 => ?_)
  · try simp only [zq] at g14
    refine g [[2]] ?_;refine WL.sog rfl (SO.callP CaF.h rfl (fun w hI => ZE X a1 _ c1 n _ rfl hl1)) rfl (zs (g [[5]] ?_));refine WP.ret1 rfl rfl rfl (RV.tmp rfl) (fun w hI => ⟨zb (by unfold wF; simp_all), hI.keep⟩)
  try simp only [zq] at g14
  refine g [[8]] ?_;refine WP.ret1 rfl rfl rfl (RV.tmp rfl) (fun w hI => ⟨zb (by unfold wF; simp_all), hI.keep⟩)
section
variable (D : Imm) (w : World) (hR : TksR D X.tk a1 n1) (hH : Holds D w)
include D w hR hH
theorem VJ (n m : Int) : z8 Tryz.prog 345 [.agg #[], .agg #[it X.tk.huts, .slice a1 n1 c1, it X.price, it X.fine, it X.wait], it n, it m] w (.bool (qI X n m)) := by
  unfold z8;obtain rfl := hR.tick.len';have hl1 := hR.len;refine en Tryz.func345 rfl Tryz.ntmps345 (Inv.start hH) (g [[1],[1,0,1,2,3]] ?_);refine WL.so (SO.box rfl rfl) rfl (zw fun b4 hb4 => ?_);refine WL.so (SO.box rfl rfl) rfl (zw fun b5 hb5 => ?_);refine g [[4],[5,8,5,4,2,3]] ?_;refine WL.cl rfl (fun w hI => Ze X.tk a1 _ c1 D _ hR hI.imm n) (g [[8],[2,9,8,5,4,2,3]] ?_);refine WL.so (SO.alloc ZvF.h rfl) rfl (zw fun b11 hb11 => ?_);refine g [[4],[10,11,9,8,5,4,2,3],[4,11,9,8,4,2,3]] ?_;refine WL.part 28 rfl (fun g28 => ?_) (fun g28 => ?_)
  · try simp only [zq] at g28
    refine WL.ydg rfl (Yd.fieldZ 2 rfl Tryz.underlying323 rfl Tryz.sizeOf321 zk rfl) rfl (g [[4]] ?_);refine WL.sog rfl (SO.callP CaF.h rfl (fun w hI => jT { X with price := X.fine } a1 _ c1 n m _ rfl hl1)) rfl (zs (g [[5]] ?_));refine WP.ret1 rfl rfl rfl (RV.tmp rfl) (fun w hI => ⟨zb (by simp_all [qI, wF]), hI.keep⟩)
  try simp only [zq] at g28
  refine g [[11]] ?_;refine WP.ret1 rfl rfl rfl (RV.tmp rfl) (fun w hI => ⟨zb (by simp_all [qI, wF]), hI.keep⟩)
theorem K8 (n : Int) : z8 Tryz.prog 349 [.agg #[], .agg #[it X.tk.huts, .slice a1 n1 c1, it X.price, it X.fine, it X.wait], it n] w (spV (yj X.tk n)) := by
  unfold z8;obtain rfl := hR.tick.len';have hl1 := hR.len;have hmn := j0 X.tk n;refine en Tryz.func349 rfl Tryz.ntmps349 (Inv.start hH) (g [[1],[1,0,1,2]] ?_);refine WL.so (SO.box rfl rfl) rfl (zw fun b3 hb3 => ?_);refine WL.so (SO.box rfl rfl) rfl (zw fun b4 hb4 => ?_);refine WL.so (SO.alloc ZvF.h rfl) rfl (zw fun b6 hb6 => ?_);refine g [[3],[5,6,4,2]] ?_;refine WL.cl rfl (fun w hI => Vh X.tk a1 _ c1 D _ hR hI.imm n) (g [[4]] ?_);refine WL.so (SO.alloc ZvF.h rfl) rfl (zw fun b7 hb7 => ?_);refine WL.so (SO.alloc ZvF.h rfl) rfl (zw fun b8 hb8 => ?_);refine g [[6],[5,8,7,6]] ?_;refine WL.know 20 (it (ze X.tk n).2.1.lo) rfl rfl (WL.know 22 (it (ze X.tk n).1.hi) rfl rfl (g [[1]] ?_));refine WL.yd (Yd.max2 rfl rfl) rfl (WL.yd (Yd.quo rfl rfl (by omega) (by omega) (wr64 ⟨by omega, by omega⟩)) rfl (g [[4]] ?_));refine WL.know 27 (it (ze X.tk n).2.1.hi) rfl rfl (WL.know 29 (it (ze X.tk n).1.lo) rfl rfl (g [[1]] ?_));refine WL.yd (Yd.quo rfl rfl (by omega) (by omega) (wr64 ⟨by omega, by omega⟩)) rfl (g [[5]] ?_);refine WP.ret1 rfl rfl rfl (RV.cellN AgF.h SzF.h rfl (vs := [_, _]) rfl (RdN.own (k := 2) (n := 2) rfl rfl)) (fun w hI => ⟨rfl, hI.keep⟩)
end
end
theorem zbl (p n : Int) (w : World) (h : -9000000000 ≤ p * n ∧ p * n ≤ 9000000000) : z8 Tryz.prog 105 [it p, it n] w (it (p * n)) := by
  unfold z8;refine en Tryz.func105 rfl Tryz.ntmps105 zI (g [[1],[5,0,1],[8,4,0,1]] ?_);refine WP.ret1 rfl rfl rfl (RV.tmp rfl) (fun w hI => ⟨rfl, hI.keep⟩)
theorem zeb (p n : Int) (w : World) (h : -9000000000 ≤ p + n ∧ p + n ≤ 9000000000) : z8 Tryz.prog 187 [it p, it n] w (it (p + n)) := by
  unfold z8;refine en Tryz.func187 rfl Tryz.ntmps187 zI (g [[1],[5,0,1],[8,4,0,1]] ?_);refine WP.ret1 rfl rfl rfl (RV.tmp rfl) (fun w hI => ⟨rfl, hI.keep⟩)
section
variable (X : Till) (a1 : Option Addr) (n1 c1 : Nat) (D : Imm) (w : World) (hR : TksR D X.tk a1 n1) (hH : Holds D w) (hbt : yx X = true)
include X a1 n1 c1 D w hR hH hbt
theorem zmN (n : Int) : z8 Tryz.prog 348 [.agg #[], .agg #[it X.tk.huts, .slice a1 n1 c1, it X.price, it X.fine, it X.wait], it n] w (spV (zce X n)) := by
  unfold z8;obtain rfl := hR.tick.len';have hl1 := hR.len;have hwt := (uo hbt).2.2.2;have hwn := Yb X.tk n;refine en Tryz.func348 rfl Tryz.ntmps348 (Inv.start hH) (g [[1],[1,0,1,2]] ?_);refine WL.so (SO.box rfl rfl) rfl (zw fun b3 hb3 => ?_);refine WL.so (SO.box rfl rfl) rfl (zw fun b4 hb4 => ?_);refine WL.so (SO.alloc ZvF.h rfl) rfl (zw fun b6 hb6 => ?_);refine g [[3],[9,6,4,3,2],[4,7,6,4,3,2]] ?_;refine WL.cl rfl (fun w hI => K8 X a1 _ c1 D _ hR hI.imm n) ?_;refine WL.so (SO.alloc ZvF.h rfl) rfl (zw fun b8 hb8 => ?_);refine g [[4],[0,8,7,6],[3007],[3]] ?_;refine WQ.q rfl (Qt.call (Enters.val CaF.h rfl rfl) (fun w hI => zbl X.wait (yj X.tk n).lo _ (by have h1 := Ug hwt (k := (yj X.tk n).lo) (by omega); omega))) rfl (g [[4]] ?_);refine WL.so (SO.call (Enters.val CaF.h rfl rfl) (fun w hI => zbl X.wait (yj X.tk n).hi _ (by have h1 := Ug hwt (k := (yj X.tk n).hi) (by omega); omega))) rfl (zs (g [[5]] ?_));refine WP.ret1 rfl rfl rfl (RV.cellN AgF.h SzF.h rfl (vs := [_, _]) rfl (RdN.own (k := 1) (n := 2) rfl rfl)) (fun w hI => ⟨rfl, hI.keep⟩)
theorem Vq (n m : Int) : z8 Tryz.prog 347 [.agg #[], .agg #[it X.tk.huts, .slice a1 n1 c1, it X.price, it X.fine, it X.wait], it n, it m] w (.bool (Yl X n m)) := by
  unfold z8;obtain rfl := hR.tick.len';have hl1 := hR.len;have hwt := (uo hbt).2.2.2;have hwn := Yb X.tk n;refine en Tryz.func347 rfl Tryz.ntmps347 (Inv.start hH) (g [[1],[1,0,1,2,3]] ?_);refine WL.so (SO.box rfl rfl) rfl (zw fun b4 hb4 => ?_);refine WL.so (SO.box rfl rfl) rfl (zw fun b5 hb5 => ?_);refine g [[4],[4,8,5,4,2,3]] ?_;refine WL.cl rfl (fun w hI => K8 X a1 _ c1 D _ hR hI.imm n) ?_;refine WL.so (SO.alloc ZvF.h rfl) rfl (zw fun b9 hb9 => ?_);refine g [[5],[7,9,8,5,3]] ?_;refine WC.loopF (fun i : Nat => [(3, it m), (5, pt b5), (9, pt b9), (10, it ((yj X.tk n).lo + ((i : Nat) : Int)))]) (fun i => i ≤ ((yj X.tk n).hi - (yj X.tk n).lo + 1).toNat ∧ ∀ j : Nat, j < i → ¬ ((yj X.tk n).lo + (j : Int)) * X.wait = m) (fun i => ((yj X.tk n).hi - (yj X.tk n).lo + 1).toNat - i) 0 ⟨by omega, by intro j hj; omega⟩ ⟨rfl, rfl, rfl, by show some (it _) = some (it _); congr 2; push_cast; omega, trivial⟩ ?_;intro i ⟨hi, hd⟩;refine g [[2],[7,3,5,9,10]] ?_;refine WC.cond rfl (fun c20 => ?_) (fun c20 => ?_)
  · try simp only [zq] at c20
    have hmm : 0 ≤ ((yj X.tk n).lo + (i : Int)) * X.wait ∧ ((yj X.tk n).lo + (i : Int)) * X.wait ≤ 2400 := by rw [Int.mul_comm]; exact Ug hwt (by omega)
    refine g [[5],[5,3,5,9,10]] ?_;refine WL.know 26 (it X.wait) rfl rfl (g [[5]] ?_);refine WC.cond rfl (fun c29 => ?_) (fun c29 => ?_)
    · try simp only [zq] at c29
      refine g [[1],[10,3,5,9,10]] ?_;refine WP.ret1 rfl rfl rfl (RV.tmp rfl) (fun w hI => ⟨zb (Eq.symm (List.any_eq_true.2 ⟨_, vT.2 ⟨by omega, by omega⟩, decide_eq_true c29⟩)), hI.keep⟩)
    try simp only [zq] at c29
    refine g [[3],[5,3,5,9,10]] ?_;exact WP.againF (i + 1) ⟨by omega, zZ hd c29⟩ (by omega) ⟨rfl, rfl, rfl, by show some (it _) = some (it _); congr 2; push_cast; omega, trivial⟩ (fun _ h => h) (fun h => h)
  try simp only [zq] at c20
  refine g [[6]] ?_;refine WC.ofFr [] trivial (g [[5]] ?_)
  refine WP.ret1 rfl rfl rfl (RV.tmp rfl) (fun w hI => ⟨zb (Eq.symm (by
    unfold Yl;rw [List.any_eq_false];intro k hk;have h1 := vT.1 hk;have h2 := hd (k - (yj X.tk n).lo).toNat (by omega);rw [show (yj X.tk n).lo + (((k - (yj X.tk n).lo).toNat : Nat) : Int) = k by omega] at h2;simpa using h2)), hI.keep⟩)
end
def intC (x : Int) : List Value := [it x]
theorem zJ : ∀ x, (intC x).length = 1 := fun _ => rfl
theorem Jb (f : Nat → Int) (n : Nat) : ((List.range n).map f).flatMap intC = (List.range n).map fun i => it (f i) := by
  rw [List.flatMap_map]
  induction n with
  | zero => rfl
  | succ n ih => rw [List.range_succ, List.flatMap_append, List.map_append, ih]; rfl
theorem jV {α : Type} (f : Nat → α) (k : Nat) : (List.range (k + 1)).map f = (List.range k).map f ++ [f k] := by rw [List.range_succ, List.map_append]; rfl
theorem W2 {l : List Int} {k : Nat} (hk : k < l.length) : (l.take (k + 1)).sum = (l.take k).sum + gt l k := by
  have hg : gt l k = l[k] := by simp [gt, List.getD, hk]
  rw [List.take_succ_eq_append_getElem hk, List.sum_append, hg];simp
theorem UY {l : List Int} (h : ∀ k, k < l.length → -100000 ≤ gt l k ∧ gt l k ≤ 100000) : ∀ k, k ≤ l.length → -100000 * (k : Int) ≤ (l.take k).sum ∧ (l.take k).sum ≤ 100000 * (k : Int) := by
  intro k
  induction k with
  | zero => intro _; simp
  | succ k ih =>
    intro hk;have h1 := ih (by omega);have h2 := h k (by omega);rw [W2 (by omega)];omega
theorem UZ (p : Int) (n : Nat) : ((List.range n).map fun _ => p).sum = p * n := by
  induction n with
  | zero => simp
  | succ n ih =>
    rw [jV, List.sum_append, ih];simp [Int.mul_add]
section
variable (n : Nat) (hn : n ≤ 1000) (fi : FuncId) (cp : List Value) (f : Nat → Int) (D : Imm) (w : World) (hH : Holds D w) (hfi : ∀ args w, (callFunc fi args).run Tryz.prog w = .ok (.enter fi args) w) (hF : ∀ i, i < n → ∀ w', Holds D w' → z8 Tryz.prog fi (nt i :: cp) w' (it (f i)))
include n hn fi cp f D w hH hfi hF
theorem Xm : y6 Tryz.prog 103 [nt n, .agg #[.func (.func fi) #[] cp.toArray]] w D (fun v D' => ∃ a c, v = .slice a n c ∧ SlL D' 1 (((List.range n).map f).map intC) a n) := by
  unfold y6;refine en Tryz.func103 rfl Tryz.ntmps103 (Inv.start hH) (g [[1],[1,0,1]] ?_);refine WL.so (SO.box rfl rfl) rfl (zw fun b3 hb3 => ?_);refine g [[5],[6,4,3,0]] ?_;refine WC.loopT [_] (fun y : Nat × Option Ow => [(3, pt b3), (4, owV y.2 y.1), (6, nt n), (7, nt y.1)]) (fun y => owH y.2 161 ((List.range y.1).map fun i => it (f i)) []) (fun y => y.1 ≤ n ∧ owP w y.2 y.1 1) (fun y => n - y.1) (0, none) ⟨by omega, rfl⟩ rfl ⟨rfl, rfl, rfl, rfl, trivial⟩ ?_;rintro ⟨k, o⟩ ⟨hk, ho⟩;dsimp only at hk ho;refine g [[1],[5,3,4,6,7]] ?_;refine WC.cond rfl (fun c8 => ?_) (fun c8 => ?_)
  · try simp only [zq] at c8
    have hkn : k < n := by omega
    refine g [[5],[5,3,4,6,7],[5,5,3,4,6,7]] ?_;refine WL.so (SO.call (Enters.val hfi rfl rfl) (fun w hI => hF k hkn _ hI.imm)) rfl (zs ?_);refine WL.so (SO.buildSlice UnF.h SzF.h ZvF.h rfl rfl rfl rfl (cs := [_]) rfl) rfl ?_;rintro _ _ _ ⟨b15, hb15, rfl, rfl, rfl⟩;refine WL.so (SO.appendOw (o := o) (len := k) (n := 1) (xs := ((List.range k).map fun i => it (f i))) (size := 1) [_] [_] [] rfl rfl Tryz.underlying163 Tryz.sizeOf161 Tryz.typeInfo161 Tryz.zeroValue161 rfl rfl rfl rfl ⟨rfl, .inr ⟨_, _, _, rfl, RdN.own (k := 0) (n := 1) rfl rfl⟩⟩ (za rfl) ho (by simp) (by omega) (by show (2 * (_ + _) + 1000) * 8 ≤ 2 ^ 48; omega) (by omega)) rfl ?_;rintro _ _ _ ⟨u1, hu1, rfl, rfl, rfl⟩;refine g [[4],[4,4,3,6,7]] ?_;exact WP.againT (⟨k + 1, some u1⟩ : Nat × Option Ow) ⟨by simp only; omega, hu1⟩ (by simp only; omega) [] _ rfl (by show _ = _ ++ owH (some u1) _ ((List.range (k + 1)).map fun i => it (f i)) []; rw [jV]; rfl) ⟨rfl, rfl, rfl, rfl, trivial⟩
  try simp only [zq] at c8
  obtain rfl : k = n := by omega
  refine g [[6],[1,4]] ?_;refine WL.freezeOw (f := intC) (m := 1) zJ [_] [] o 161 ((List.range k).map f) rfl (by simpa using ho) (by rw [Jb]) (fun D2 hX2 hS2 => ?_);rw [List.length_map, List.length_range] at hS2;refine g [[5]] ?_;refine WP.ret1 rfl rfl rfl (RV.tmp rfl) (fun w1 hI => ⟨_, D2, rfl, hI.keep, hI.imm, hX2, owAt o, _, xg (wt ho), hS2⟩)
theorem znc : y6 Tryz.prog 214 [nt n, .agg #[.func (.func fi) #[] cp.toArray]] w D (fun v D' => ∃ a c, v = .slice a n c ∧ SlL D' 1 (((List.range n).map f).map intC) a n) := by
  unfold y6;refine en Tryz.func214 rfl Tryz.ntmps214 (Inv.start hH) (g [[1],[1,0,1]] ?_);refine WL.so (SO.box rfl rfl) rfl (zw fun b3 hb3 => ?_);refine g [[5],[6,4,3,0]] ?_;refine WC.loopT [_] (fun y : Nat × Option Ow => [(3, pt b3), (4, owV y.2 y.1), (6, nt n), (7, nt y.1)]) (fun y => owH y.2 3 ((List.range y.1).map fun i => it (f i)) []) (fun y => y.1 ≤ n ∧ owP w y.2 y.1 1) (fun y => n - y.1) (0, none) ⟨by omega, rfl⟩ rfl ⟨rfl, rfl, rfl, rfl, trivial⟩ ?_;rintro ⟨k, o⟩ ⟨hk, ho⟩;dsimp only at hk ho;refine g [[1],[5,3,4,6,7]] ?_;refine WC.cond rfl (fun c8 => ?_) (fun c8 => ?_)
  · try simp only [zq] at c8
    have hkn : k < n := by omega
    refine g [[5],[5,3,4,6,7],[5,5,3,4,6,7]] ?_;refine WL.so (SO.call (Enters.val hfi rfl rfl) (fun w hI => hF k hkn _ hI.imm)) rfl (zs ?_);refine WL.so (SO.buildSlice UnF.h SzF.h ZvF.h rfl rfl rfl rfl (cs := [_]) rfl) rfl ?_;rintro _ _ _ ⟨b15, hb15, rfl, rfl, rfl⟩;refine WL.so (SO.appendOw (o := o) (len := k) (n := 1) (xs := ((List.range k).map fun i => it (f i))) (size := 1) [_] [_] [] rfl rfl Tryz.underlying94 Tryz.sizeOf3 Tryz.typeInfo3 Tryz.zeroValue3 rfl rfl rfl rfl ⟨rfl, .inr ⟨_, _, _, rfl, RdN.own (k := 0) (n := 1) rfl rfl⟩⟩ (za rfl) ho (by simp) (by omega) (by show (2 * (_ + _) + 1000) * 8 ≤ 2 ^ 48; omega) (by omega)) rfl ?_;rintro _ _ _ ⟨u1, hu1, rfl, rfl, rfl⟩;refine g [[4],[4,4,3,6,7]] ?_;exact WP.againT (⟨k + 1, some u1⟩ : Nat × Option Ow) ⟨by simp only; omega, hu1⟩ (by simp only; omega) [] _ rfl (by show _ = _ ++ owH (some u1) _ ((List.range (k + 1)).map fun i => it (f i)) []; rw [jV]; rfl) ⟨rfl, rfl, rfl, rfl, trivial⟩
  try simp only [zq] at c8
  obtain rfl : k = n := by omega
  refine g [[6],[1,4]] ?_;refine WL.freezeOw (f := intC) (m := 1) zJ [_] [] o 3 ((List.range k).map f) rfl (by simpa using ho) (by rw [Jb]) (fun D2 hX2 hS2 => ?_);rw [List.length_map, List.length_range] at hS2;refine g [[5]] ?_;refine WP.ret1 rfl rfl rfl (RV.tmp rfl) (fun w1 hI => ⟨_, D2, rfl, hI.keep, hI.imm, hX2, owAt o, _, xg (wt ho), hS2⟩)
end
theorem Qd (l : List Int) (a : Option Addr) (n c : Nat) (D : Imm) (w : World) (hS : SlL D 1 (l.map intC) a n) (hn : n ≤ 1000) (hb : ∀ k, k < l.length → -100000 ≤ gt l k ∧ gt l k ≤ 100000) (hH : Holds D w) : z8 Tryz.prog 102 [.slice a n c] w (it l.sum) := by
  unfold z8;obtain rfl := hS.len';refine en Tryz.func102 rfl Tryz.ntmps102 (Inv.start hH) (g [[1],[5,0],[6,2,0],[7,3,2,0]] ?_);refine WC.loopF (fun k : Nat => [(2, it (l.take k).sum), (3, .func (.func 187) #[] #[]), (6, .slice a l.length c), (7, nt l.length), (8, nt k)]) (fun k => k ≤ l.length) (fun k => l.length - k) 0 (by omega) ⟨rfl, rfl, rfl, rfl, rfl, trivial⟩ ?_;intro k hk;refine g [[1],[5,2,3,6,7,8]] ?_;refine WC.cond rfl (fun c9 => ?_) (fun c9 => ?_)
  · try simp only [zq] at c9
    have hkl : k < l.length := by omega
    have hst := W2 hkl;have hb1 := UY hb k (by omega);have hb2 := hb k hkl;refine g [[5],[1,2,3,6,7,8]] ?_;refine WL.yd (Yd.ix rfl rfl (hS.addr k (by omega))) rfl (WL.yd (Yd.l1 rfl ((hS.at k (by omega)).rd 0 rfl)) rfl (g [[3],[4,5,2,3,6,7,8]] ?_));refine WL.so (SO.call (Enters.val CaF.h rfl rfl) (fun w hI => zeb (l.take k).sum (gt l k) _ (by omega))) rfl (zs (g [[4],[4,2,3,6,7,8]] ?_));exact WP.againF (k + 1) (by omega) (by omega) ⟨by rw [hst]; rfl, rfl, rfl, rfl, rfl, trivial⟩ (fun _ h => h) (fun h => h)
  try simp only [zq] at c9
  obtain rfl : k = l.length := by omega
  refine g [[6],[6,2]] ?_;refine WP.ret1 rfl rfl rfl (RV.tmp rfl) (fun w hI => ⟨by rw [List.take_length], hI.keep⟩)
theorem zdP : zj Tryz.prog 167 [.nilFunc] [(0, 1)] := ⟨⟨_, Tryz.zeroValue167, rfl⟩, _, Tryz.underlying167, fun w => by simp [Tryz.sizeOf165]⟩
abbrev zbG := SaF.mk zdP
attribute [instance] zbG
section
variable (X : Till) (a1 : Option Addr) (n1 c1 : Nat) (D : Imm) (w : World) (hR : TksR D X.tk a1 n1) (hH : Holds D w) (l : List Ent) (ab : Option Addr) (nb cb : Nat) (hB : xL D l ab nb) (fi : FuncId) (cp : List Value) (is : Bool) (hfi : ∀ args w, (callFunc fi args).run Tryz.prog w = .ok (.enter fi args) w) (hIs : ∀ w', Holds D w' → z8 Tryz.prog fi (.agg #[it X.tk.huts, .slice a1 n1 c1, it X.price, it X.fine, it X.wait] :: cp) w' (.bool is))
include X a1 n1 c1 D w hR hH l ab nb cb hB fi cp is hfi hIs
theorem ue (h : yq X l is = 0) : z8 Tryz.prog 97 [.agg #[it X.tk.huts, .slice a1 n1 c1, it X.price, it X.fine, it X.wait], .slice ab nb cb, .func (.func fi) #[] cp.toArray] w (.agg #[it X.tk.huts, .slice a1 n1 c1, it X.price, it X.fine, it X.wait]) := (Us X a1 n1 c1 D w hR hH l ab nb cb hB fi cp is hfi hIs).mono fun e w' ⟨h1, h2⟩ => ⟨by rw [h1, h]; rfl, h2⟩
theorem kI (h : yq X l is ≠ 0) : xC Tryz.prog 97 [.agg #[it X.tk.huts, .slice a1 n1 c1, it X.price, it X.fine, it X.wait], .slice ab nb cb, .func (.func fi) #[] cp.toArray] w (UV (yq X l is)) := (Us X a1 n1 c1 D w hR hH l ab nb cb hB fi cp is hfi hIs).mono fun e w' ⟨h1, h2⟩ => ⟨by rw [h1]; unfold WM; rw [if_neg h], h2⟩
end
theorem uy (T : Tks) : (y7 T).2 = tksE T true := by
  unfold y7;split
  · rfl
  rename_i h; simpa using (Classical.not_not.1 h).symm
def U4 : Nat → Value
  | 0 => .nilIface
  | 1 => .iface 321 (.agg #[])
  | 2 => .iface 323 (.agg #[])
  | _ => .iface 324 (.agg #[])
def Ku : List Value := [.nilIface, .iface 321 (.agg #[]), .iface 323 (.agg #[]), .iface 324 (.agg #[])]
theorem zmQ {k : Nat} (hk : k < 4) : ∀ w, (part 264 Ku.toArray (k * 1)).run Tryz.prog w = .ok (U4 k) w := by
  intro w;rcases (show k = 0 ∨ k = 1 ∨ k = 2 ∨ k = 3 by omega) with rfl | rfl | rfl | rfl <;> simp [part, Tryz.isAgg264, Ku, U4]
theorem zdc (X : Till) (s1 : Value) (b1 : Nat) (D : Imm) (h1 : D b1 = some (.cells (List.toArray (Q2 X s1)) 156 (0, 0))) (v : Value) (w : World) (hH : Holds D w) : z8 Tryz.prog 147 [v, pt b1] w (it X.price) := by
  unfold z8;refine en Tryz.func147 rfl Tryz.ntmps147 (Inv.start hH) (g [[1],[5,1],[8,3,1]] ?_);refine WP.ret1 rfl rfl rfl (RV.tmp rfl) (fun w hI => ⟨rfl, hI.keep⟩)
section
variable (X : Till) (a1 : Option Addr) (n1 c1 : Nat) (D : Imm) (w : World) (hR : TksR D X.tk a1 n1) (hH : Holds D w)
include X a1 n1 c1 D w hR hH
theorem Wp (hE : yq X [] true ≠ 0) : z8 Tryz.prog 65 [.agg #[it X.tk.huts, .slice a1 n1 c1, it X.price, it X.fine, it X.wait]] w (.tuple #[it (yg X).1, it (yg X).2]) := by
  unfold z8;obtain rfl := hR.tick.len';have hl1 := hR.len
  have hb0 : yx X = false := by
    cases hb : yx X with
    | false => rfl
    | true => exact absurd (Q3 hb (by simp) rfl (by intro k hk; simp at hk)) hE
  have hO0 : yg X = (0, 1) := by unfold yg; rw [if_pos hb0]
  have hE1 : yq X [] true = 1 := jj hb0;refine enD Tryz.func65 rfl Tryz.ntmps65 (Inv.start hH) (g [[1],[1,0]] ?_);refine WL.so (SO.box rfl rfl) rfl (zw fun b1 hb1 => ?_);refine g [[1]] ?_;refine WL.so (SO.alloc ZvF.h rfl) rfl (zw fun b3 hb3 => ?_);refine g [[3],[2,3,2,1]] ?_;refine WL.defer rfl (g [[3],[2,3,2,1]] ?_);refine WL.nf rfl (fun w hI => kI X a1 _ c1 D _ hR hI.imm [] none 0 0 (xL.nil _) 98 [] true CaF.h (fun w' _ => wa (.bool true) X a1 _ c1 w') hE) (g [[1]] ?_);refine WP.panicD (k := 0) [_, _] [_, _] rfl CaF.h rfl (fun w hI => QJ _ _ _ _ _ (hI.own _ _ (List.mem_of_getElem? (i := 0) rfl))) rfl zV (fun w hI => ⟨congrArg Ending.returned (by rw [hO0, hE1]; rfl), hI.keep⟩)
theorem Wq (hE : yq X [] true = 0) : z8 Tryz.prog 65 [.agg #[it X.tk.huts, .slice a1 n1 c1, it X.price, it X.fine, it X.wait]] w (.tuple #[it (yg X).1, it (yg X).2]) := by
  unfold z8;obtain rfl := hR.tick.len';have hl1 := hR.len;have hO0 : yg X = (X.price * X.tk.l.length, 0) := by unfold yg; rw [if_neg (by rw [(vo hE).1]; simp)]
  refine enD Tryz.func65 rfl Tryz.ntmps65 (Inv.start hH) (g [[1],[1,0]] ?_);refine WL.so (SO.box rfl rfl) rfl (zw fun b1 hb1 => ?_);refine g [[1]] ?_;refine WL.so (SO.alloc ZvF.h rfl) rfl (zw fun b3 hb3 => ?_);refine g [[3],[2,3,2,1]] ?_;refine WL.defer rfl (g [[3],[2,3,2,1]] ?_);refine WL.cl rfl (fun w hI => ue X a1 _ c1 D _ hR hI.imm [] none 0 0 (xL.nil _) 98 [] true CaF.h (fun w' _ => wa (.bool true) X a1 _ c1 w') hE) ?_;refine WL.so (SO.alloc ZvF.h rfl) rfl (zw fun b4 hb4 => ?_);refine g [[4]] ?_;refine WC.freezeN 0 b4 (.cells (List.toArray (Q2 X (.slice a1 X.tk.l.length c1))) 156 (0, 0)) rfl rfl hb4 (fun D1 hX1 h4 => ?_);replace hR := hR.ext hX1;refine g [[2,4,3,2]] ?_;refine WL.cl rfl (fun w hI => Ud X a1 _ c1 _) (g [[2]] ?_);refine WL.so (SO.makes (Enters.func Tryz.call103 rfl) (fun w hI => Xm X.tk.l.length hl1 147 [pt b4] (fun _ => X.price) D1 _ hI.imm Tryz.call147 (fun i _ w' hH' => zdc X _ b4 D1 h4 (nt i) w' hH'))) rfl ?_;rintro _ D2 _ ⟨hX2, ⟨a9, c9, rfl, hS9⟩, rfl⟩;refine WL.cl rfl (fun w hI => Qd ((List.range X.tk.l.length).map fun _ => X.price) a9 _ c9 D2 _ hS9 hl1 (by intro k hk; have hpr := (uo (vo hE).1).2.1; simp [gt, List.getD] at hk ⊢; simp [hk]; omega) hI.imm) (g [[5]] ?_);refine WP.endD [_, _] [_, _] rfl rfl CaF.h (fun w hI => zaq _ _) rfl zV (fun w hI => ⟨congrArg Ending.returned (by rw [hO0, UZ]; rfl), hI.keep⟩)
theorem Vm : z8 Tryz.prog 65 [.agg #[it X.tk.huts, .slice a1 n1 c1, it X.price, it X.fine, it X.wait]] w (.tuple #[it (yg X).1, it (yg X).2]) := by
  by_cases hE : yq X [] true = 0
  · exact Wq X a1 n1 c1 D w hR hH hE
  exact Wp X a1 n1 c1 D w hR hH hE
end
section
variable {X : Till}
include X
theorem zn6 {n : Int} (h : yq X [] (isT X.tk n) ≠ 0) : zms X n = yq X [] (isT X.tk n) := by unfold zms; rw [if_pos h]
theorem zmI {n : Int} (h : yq X [] (isT X.tk n) = 0) : zms X n = tksE X.tk true := by unfold zms; rw [if_neg (by rw [h]; simp)]
theorem zn5 {n : Int} (h : zms X n = 0) : yq X [] (isT X.tk n) = 0 ∧ tksE X.tk true = 0 := by
  by_cases h1 : yq X [] (isT X.tk n) = 0
  · exact ⟨h1, (zmI h1).symm.trans h⟩
  exact absurd ((zn6 h1).symm.trans h) h1
theorem Q7 {l : List Ent} (h : yq X l true ≠ 0) : uQ X l = yq X l true := by unfold uQ; rw [if_pos h]
theorem Z3 {l : List Ent} (h : yq X l true = 0) : uQ X l = tksE X.tk true := by unfold uQ; rw [if_neg (by rw [h]; simp)]
end
section
variable (X : Till) (a1 : Option Addr) (n1 c1 : Nat) (D : Imm) (w : World) (hR : TksR D X.tk a1 n1) (hH : Holds D w)
include X a1 n1 c1 D w hR hH
theorem znz (n : Int) (v : Int) (hE : yq X [] (isT X.tk n) ≠ 0) : xC Tryz.prog 212 [.agg #[it X.tk.huts, .slice a1 n1 c1, it X.price, it X.fine, it X.wait], it n, it v] w (UV (zms X n)) := by
  unfold xC;obtain rfl := hR.tick.len';have hl1 := hR.len;refine en Tryz.func212 rfl Tryz.ntmps212 (Inv.start hH) (g [[1],[1,0,1,2]] ?_);refine WL.so (SO.box rfl rfl) rfl (zw fun b3 hb3 => ?_);refine WL.so (SO.box rfl rfl) rfl (zw fun b4 hb4 => ?_);refine WL.so (SO.alloc ZvF.h rfl) rfl (zw fun b6 hb6 => ?_);refine g [[3]] ?_;refine WC.freezeN 1 b4 (.cells (List.toArray [it n]) 3 (0, 0)) rfl rfl hb4 (fun D1 hX1 h4 => ?_);replace hR := hR.ext hX1;refine g [[3,6,4,3,2]] ?_;refine WL.nf rfl (fun w hI => kI X a1 _ c1 D1 _ hR hI.imm [] none 0 0 (xL.nil _) 265 [pt b4] (isT X.tk n) CaF.h (fun w' hH' => znu X a1 _ c1 b4 n D1 h4 rfl hl1 w' hH') hE) (g [[1]] ?_);refine WP.panicBody rfl (fun w hI => ⟨by rw [zn6 hE], hI.keep⟩)
theorem znA (n : Int) (v : Int) (hE : yq X [] (isT X.tk n) = 0) (hW : tksE X.tk true ≠ 0) : xC Tryz.prog 212 [.agg #[it X.tk.huts, .slice a1 n1 c1, it X.price, it X.fine, it X.wait], it n, it v] w (UV (zms X n)) := by
  unfold xC;obtain rfl := hR.tick.len';have hl1 := hR.len;refine en Tryz.func212 rfl Tryz.ntmps212 (Inv.start hH) (g [[1],[1,0,1,2]] ?_);refine WL.so (SO.box rfl rfl) rfl (zw fun b3 hb3 => ?_);refine WL.so (SO.box rfl rfl) rfl (zw fun b4 hb4 => ?_);refine WL.so (SO.alloc ZvF.h rfl) rfl (zw fun b6 hb6 => ?_);refine g [[3]] ?_;refine WC.freezeN 1 b4 (.cells (List.toArray [it n]) 3 (0, 0)) rfl rfl hb4 (fun D1 hX1 h4 => ?_);replace hR := hR.ext hX1;refine g [[3,6,4,3,2]] ?_;refine WL.cl rfl (fun w hI => ue X a1 _ c1 D1 _ hR hI.imm [] none 0 0 (xL.nil _) 265 [pt b4] (isT X.tk n) CaF.h (fun w' hH' => znu X a1 _ c1 b4 n D1 h4 rfl hl1 w' hH') hE) ?_;refine WL.nf rfl (fun w hI => Qa X a1 _ c1 D1 _ hR hI.imm (by rw [uy]; exact hW)) (g [[1]] ?_);refine WP.panicBody rfl (fun w hI => ⟨by rw [zmI hE, uy], hI.keep⟩)
theorem znP (n : Int) (hE : yq X [] (isT X.tk n) = 0) (hW : tksE X.tk true = 0) : z8 Tryz.prog 212 [.agg #[it X.tk.huts, .slice a1 n1 c1, it X.price, it X.fine, it X.wait], it n, it 3] w (spV (zce X n)) := by
  unfold z8;obtain rfl := hR.tick.len';have hl1 := hR.len;refine en Tryz.func212 rfl Tryz.ntmps212 (Inv.start hH) (g [[1],[1,0,1,2]] ?_);refine WL.so (SO.box rfl rfl) rfl (zw fun b3 hb3 => ?_);refine WL.so (SO.box rfl rfl) rfl (zw fun b4 hb4 => ?_);refine WL.so (SO.alloc ZvF.h rfl) rfl (zw fun b6 hb6 => ?_);refine g [[3]] ?_;refine WC.freezeN 1 b4 (.cells (List.toArray [it n]) 3 (0, 0)) rfl rfl hb4 (fun D1 hX1 h4 => ?_);replace hR := hR.ext hX1;refine g [[3,6,4,3,2]] ?_;refine WL.cl rfl (fun w hI => ue X a1 _ c1 D1 _ hR hI.imm [] none 0 0 (xL.nil _) 265 [pt b4] (isT X.tk n) CaF.h (fun w' hH' => znu X a1 _ c1 b4 n D1 h4 rfl hl1 w' hH') hE) ?_;refine WL.cl rfl (fun w hI => Qb X a1 _ c1 D1 _ hR hI.imm (by rw [uy]; exact hW)) ?_;refine WL.so (SO.alloc ZvF.h rfl) rfl (zw fun b7 hb7 => ?_);refine g [[4],[0,7,6,4,2],[3005]] ?_;refine WQ.q rfl (Qt.callP CaF.h rfl (fun w hI => zav _)) rfl (g [[1]] ?_);refine WQ.q rfl (Yd.qt (Yd.index (cs := Ku) (j := 3) UnF.h SzF.h rfl rfl (by decide) (zmQ (by decide)))) rfl (g [[3]] ?_);refine WL.so (SO.call (Enters.meth CaF.h (fun w => by kernel_rfl) rfl rfl) (fun w hI => zmN X a1 _ c1 D1 _ hR hI.imm (vo hE).1 n)) rfl (zs (g [[4]] ?_));refine WP.ret1 rfl rfl rfl (RV.cellN AgF.h SzF.h rfl (vs := [_, _]) rfl (RdN.own (k := 1) (n := 2) rfl rfl)) (fun w hI => ⟨rfl, hI.keep⟩)
theorem znB (n v : Int) (h : zms X n ≠ 0) : xC Tryz.prog 212 [.agg #[it X.tk.huts, .slice a1 n1 c1, it X.price, it X.fine, it X.wait], it n, it v] w (UV (zms X n)) := by
  by_cases hE : yq X [] (isT X.tk n) = 0
  · exact znA X a1 n1 c1 D w hR hH n v hE (by rw [← zmI hE]; exact h)
  exact znz X a1 n1 c1 D w hR hH n v hE
theorem zno (n : Int) (hE : zms X n ≠ 0) : z8 Tryz.prog 142 [.agg #[it X.tk.huts, .slice a1 n1 c1, it X.price, it X.fine, it X.wait], it n] w (.tuple #[spV (zmp X n).1, it (zmp X n).2]) := by
  unfold z8;obtain rfl := hR.tick.len';have hl1 := hR.len;have hO0 : zmp X n = (⟨0, 0⟩, zms X n) := by unfold zmp; rw [if_pos hE]
  refine enD Tryz.func142 rfl Tryz.ntmps142 (Inv.start hH) (g [[1],[1,0,1]] ?_);refine WL.so (SO.box rfl rfl) rfl (zw fun b2 hb2 => ?_);refine WL.so (SO.alloc ZvF.h rfl) rfl (zw fun b4 hb4 => ?_);refine WL.so (SO.alloc ZvF.h rfl) rfl (zw fun b5 hb5 => ?_);refine g [[3],[2,5,4,2,1]] ?_;refine WL.defer rfl (g [[3],[3,5,4,2,1]] ?_);refine WL.nf rfl (fun w hI => znB X a1 _ c1 D _ hR hI.imm n 3 hE) (g [[1]] ?_);refine WP.panicD (k := 0) [_, _] [_, _] rfl CaF.h rfl (fun w hI => znb _ _ _ _ _ (hI.own _ _ (List.mem_of_getElem? (i := 0) rfl))) rfl zV (fun w hI => ⟨congrArg Ending.returned (by rw [hO0]; rfl), hI.keep⟩)
theorem znp (n : Int) (hE : zms X n = 0) : z8 Tryz.prog 142 [.agg #[it X.tk.huts, .slice a1 n1 c1, it X.price, it X.fine, it X.wait], it n] w (.tuple #[spV (zmp X n).1, it (zmp X n).2]) := by
  unfold z8;obtain rfl := hR.tick.len';have hl1 := hR.len;have hO0 : zmp X n = (zce X n, 0) := by unfold zmp; rw [if_neg (by rw [hE]; simp)]
  refine enD Tryz.func142 rfl Tryz.ntmps142 (Inv.start hH) (g [[1],[1,0,1]] ?_);refine WL.so (SO.box rfl rfl) rfl (zw fun b2 hb2 => ?_);refine WL.so (SO.alloc ZvF.h rfl) rfl (zw fun b4 hb4 => ?_);refine WL.so (SO.alloc ZvF.h rfl) rfl (zw fun b5 hb5 => ?_);refine g [[3],[2,5,4,2,1]] ?_;refine WL.defer rfl (g [[3],[3,5,4,2,1]] ?_);refine WL.cl rfl (fun w hI => znP X a1 _ c1 D _ hR hI.imm n (zn5 hE).1 (zn5 hE).2) (g [[5]] ?_);refine WP.endD [_, _] [_, _] rfl rfl CaF.h (fun w hI => znt _ _) rfl zV (fun w hI => ⟨congrArg Ending.returned (by rw [hO0]; rfl), hI.keep⟩)
theorem znG (n : Int) : z8 Tryz.prog 142 [.agg #[it X.tk.huts, .slice a1 n1 c1, it X.price, it X.fine, it X.wait], it n] w (.tuple #[spV (zmp X n).1, it (zmp X n).2]) := by
  by_cases hE : zms X n = 0
  · exact znp X a1 n1 c1 D w hR hH n hE
  exact zno X a1 n1 c1 D w hR hH n hE
end
end Go.Proofs.YtejgofaeafphjaaGreatDoor
namespace Go.Ti
open Go.W (gt wX)
def zM (l : List Ent) (t k : Int) : Bool := l.any fun e => decide (e.ticket = t ∧ e.kind = k)
def xj (X : Till) (l : List Ent) (i : Nat) : Int := if zM (l.take i) (gt l i).ticket (gt l i).kind then 1 else if Zm X (gt l i).ticket (gt l i).pence (gt l i).kind.toNat = false then 2 else 0
def yH (X : Till) (l : List Ent) (n : Nat) : List Nat := (List.range n).filter fun i => decide (xj X l i ≠ 0)
section
variable (X : Till) (l : List Ent)
include X l
theorem Zl (i : Nat) : yH X l (i + 1) = yH X l i ++ if xj X l i ≠ 0 then [i] else [] := by
  unfold yH;rw [List.range_succ, List.filter_append];congr 1;by_cases h : xj X l i = 0 <;> simp [h]
theorem jF {i n : Nat} (hi : i < n) (h : xj X l i ≠ 0) : ∃ post, yH X l n = yH X l i ++ i :: post := by
  induction n with
  | zero => omega
  | succ n ih =>
    rw [Zl];rcases Nat.lt_or_ge i n with h1 | h1
    · obtain ⟨post, e⟩ := ih h1;exact ⟨post ++ if xj X l n ≠ 0 then [n] else [], by rw [e]; simp⟩
    · have : i = n := by omega
      subst this;exact ⟨[], by rw [if_pos h]⟩
theorem Vt {i n : Nat} (hi : i < n) (h : xj X l i ≠ 0) : (yH X l i).length < (yH X l n).length ∧ gt (yH X l n) (yH X l i).length = i := by
  obtain ⟨post, e⟩ := jF X l hi h;rw [e];refine ⟨by simp, ?_⟩;simp [gt, List.getD]
theorem ke (i : Nat) : (yH X l (i + 1)).length = (yH X l i).length + if xj X l i ≠ 0 then 1 else 0 := by
  rw [Zl, List.length_append];split <;> rfl
end
theorem vM {l : List Ent} {i : Nat} (hi : i < l.length) (t k : Int) : zM (l.take (i + 1)) t k = (zM (l.take i) t k || decide ((gt l i).ticket = t ∧ (gt l i).kind = k)) := by
  have hg : gt l i = l[i] := by simp [gt, List.getD, hi]
  unfold zM;rw [List.take_succ_eq_append_getElem hi, List.any_append, hg];simp
def zh (X : Till) (l : List Ent) : Int × Int × Int := if uQ X l ≠ 0 then (0, 0, uQ X l) else match yH X l l.length with
  | [] => (0, 0, 4)
  | i :: _ => ((i : Int), xj X l i, 0)
def ja (e : Ent) : Int := if e.kind = 3 then e.pence * -1 else e.pence
def yh (X : Till) (l : List Ent) : Int × Int := if uQ X l ≠ 0 then (0, uQ X l) else if yH X l l.length ≠ [] then (0, 11) else (((List.range l.length).map fun i => ja (gt l i)).sum, 0)
def xN (f : Nat → Bool) : Nat → Nat
  | 0 => 0
  | n + 1 => xN f n + if f n then 2 ^ n else 0
theorem qB (f : Nat → Bool) : ∀ n, xN f n < 2 ^ n := by
  intro n
  induction n with
  | zero => simp [xN]
  | succ n ih => unfold xN; split <;> omega
theorem uB {f g : Nat → Bool} : ∀ {n}, (∀ i, i < n → f i = g i) → xN f n = xN g n := by
  intro n
  induction n with
  | zero => intro _; rfl
  | succ n ih => intro h; unfold xN; rw [ih fun i hi => h i (by omega), h n (by omega)]
def zlc (X : Till) (l : List Ent) (k n : Nat) : Bool := !zM l (n : Int) (k : Int) && (decide (k = 1) || decide ((zd2 X (n : Int) k).lo > 0))
theorem Vu {X : Till} (h : yx X = true) {n m : Int} {k : Nat} (hc : Zm X n m k = true) : 0 ≤ m ∧ m ≤ 2400 := by
  have hb := uo h;unfold Zm at hc;split at hc
  · simp only [wF, Bool.and_eq_true, decide_eq_true_eq] at hc; omega
  · simp only [qI, Bool.and_eq_true, decide_eq_true_eq] at hc; omega
  · obtain ⟨k, hk, he⟩ := List.any_eq_true.1 hc;have h1 := vT.1 hk;have h2 := Yb X.tk n;have h3 := Ug hb.2.2.2 (k := k) (by omega);rw [Int.mul_comm] at h3;have := of_decide_eq_true he;omega
theorem ZX {X : Till} {l : List Ent} {i : Nat} (h : xj X l i = 0) : Zm X (gt l i).ticket (gt l i).pence (gt l i).kind.toNat = true := by
  unfold xj at h;split at h
  · omega
  · split at h
    · omega
    · rename_i h2; simpa using h2
theorem Xa {X : Till} {l : List Ent} {n : Nat} (h : yH X l n = []) : ∀ i, i < n → xj X l i = 0 := fun i hi => by
  by_cases h1 : xj X l i = 0
  · exact h1
  · obtain ⟨post, e⟩ := jF X l hi h1;rw [h] at e;simp at e
end Go.Ti
