import Derived.Test.YtejgofaeafphjaaGreatDoorXG19
set_option linter.all false
set_option maxRecDepth 100000
set_option maxHeartbeats 4000000
namespace Go.Ti
open Go.W (gt wX)
theorem Zz {js : List Nat} (h : js.Nodup) {k : Nat} (hk : k < js.length) : gt js k ∉ js.take k := fun hm => by
  obtain ⟨i, hi, e⟩ := uU hm;rw [List.length_take] at hi
  have e2 : gt js i = gt js k := by
    rw [← e]; simp [gt, List.getD, List.getElem?_take, show i < k by omega]
  have := j1 h (by omega) hk e2;omega
theorem wD {js : List Nat} {k i : Nat} (hk : k < js.length) : i ∈ js.take (k + 1) ↔ i ∈ js.take k ∨ i = gt js k := by
  have hg : gt js k = js[k] := by simp [gt, List.getD, hk]
  rw [List.take_succ_eq_append_getElem hk, List.mem_append, List.mem_singleton, hg]
theorem zcu {l js : List Nat} (hjs : js.Nodup) (hlt : ∀ i, i < js.length → gt js i < l.length) : ∀ k, k ≤ js.length → ∀ i, i < l.length → gt (incL l (js.take k)) i = gt l i + if i ∈ js.take k then 1 else 0 := by
  intro k
  induction k with
  | zero => intro _ i hi; simp [incL]
  | succ k ih =>
    intro hk i hi;have h1 := ih (by omega);rw [J7 (by omega), VR _ _ _ _ (by rw [zas]; exact hlt k (by omega))];by_cases e : gt js k = i
    · subst e;rw [if_pos rfl, h1 _ hi, if_neg (Zz hjs (by omega)), if_pos ((wD (by omega)).2 (.inr rfl))]
    · rw [if_neg e, h1 i hi];by_cases hm : i ∈ js.take k
      · rw [if_pos hm, if_pos ((wD (by omega)).2 (.inl hm))]
      · rw [if_neg hm, if_neg (fun h => by rcases (wD (by omega)).1 h with h | h; exact hm h; exact e h.symm)]
theorem YV (key : Nat → Int) (n : Nat) : (wO key n).Nodup := (xU key n).nodup_iff.2 List.nodup_range
section
variable {M : Nat} {qs : List Nat}
def ordS (M : Nat) (qs : List Nat) : List Nat := wO (keyS M qs.sum qs) qs.length
theorem kJ : (ordS M qs).length = qs.length := xy _ _
theorem Uv : (ordS M qs).Perm (List.range qs.length) := xU _ _
theorem JC {a b : Nat} (hab : a < b) (hb : b < qs.length) : lexB (keyS M qs.sum qs) (gt (ordS M qs) a) (gt (ordS M qs) b) := UO _ _ hab hb
def tkS (M : Nat) (qs : List Nat) (i : Nat) : Prop := i ∈ (ordS M qs).take (kz M qs.sum qs qs.length)
instance (i : Nat) : Decidable (tkS M qs i) := inferInstanceAs (Decidable (_ ∈ _))
theorem XX (h0 : 0 < qs.sum) {i : Nat} (hi : i < qs.length) : gt (ZZ M qs) i = uY M qs.sum qs i + if tkS M qs i then 1 else 0 := by
  have hl := U6 (M := M) (A := qs.sum) rfl h0;unfold ZZ; rw [if_neg (by omega), zcu (YV _ _) (fun i hi => by rw [xy] at hi; rw [Zs]; exact qw _ _ hi) _ (by rw [xy]; omega) _ (by rw [Zs]; exact hi), QX _ _ _ hi, if_pos hi];rfl
theorem UW (f : Nat → Nat) (n : Nat) : sumF f n = ((List.range n).map f).sum := by
  induction n with
  | zero => rfl
  | succ n ih => rw [List.range_succ, List.map_append, List.sum_append, ← ih]; simp [sumF]
theorem JQ {l m : List Nat} (h : l.Perm m) : l.sum = m.sum := by
  induction h with
  | nil => rfl
  | cons x _ ih => simp [ih]
  | swap x y l => simp; omega
  | trans _ _ ih1 ih2 => exact ih1.trans ih2
theorem uV {l : List Nat} {c : Nat} (h : ∀ x, x ∈ l → x ≤ c) : l.sum ≤ c * l.length := by
  induction l with
  | nil => simp
  | cons x l ih =>
    have h1 := h x (by simp);have h2 := ih fun y hy => h y (by simp [hy]);simp only [List.sum_cons, List.length_cons, Nat.mul_succ];omega
theorem zde (h0 : 0 < qs.sum) {i : Nat} (hi : tkS M qs i) : 0 < remN M qs.sum qs i := by
  rcases Nat.eq_zero_or_pos (remN M qs.sum qs i) with hz | hz
  · exfalso
    obtain ⟨a, ha, rfl⟩ := uU hi;have hl := U6 (M := M) (A := qs.sum) rfl h0;rw [List.length_take, kJ] at ha;have ha2 : a < kz M qs.sum qs qs.length := by omega
    have e : gt ((ordS M qs).take (kz M qs.sum qs qs.length)) a = gt (ordS M qs) a := by simp [gt, List.getD, List.getElem?_take, ha2]
    rw [e] at hz;have hs := XC (M := M) (A := qs.sum) rfl h0;rw [UW, ← JQ (Uv.map (remN M qs.sum qs)), ← List.take_append_drop a (ordS M qs), List.map_append, List.sum_append] at hs
    have h1 : ((ordS M qs).take a |>.map (remN M qs.sum qs)).sum ≤ (qs.sum - 1) * a := by
      have := uV (l := ((ordS M qs).take a).map (remN M qs.sum qs)) (c := qs.sum - 1) (fun x hx => by
        obtain ⟨y, _, rfl⟩ := List.mem_map.1 hx;have : remN M qs.sum qs y < qs.sum := Nat.mod_lt _ h0;omega)
      rw [List.length_map, List.length_take, kJ, Nat.min_eq_left (by omega)] at this;exact this
    have h2 : ((ordS M qs).drop a |>.map (remN M qs.sum qs)).sum ≤ 0 * ((ordS M qs).drop a |>.map (remN M qs.sum qs)).length := by
      refine uV fun x hx => ?_;obtain ⟨y, hy, rfl⟩ := List.mem_map.1 hx;obtain ⟨b, hb, rfl⟩ := uU hy;rw [List.length_drop, kJ] at hb;have e2 : gt ((ordS M qs).drop a) b = gt (ordS M qs) (a + b) := by simp [gt, List.getD, List.getElem?_drop]
      rw [e2];rcases Nat.eq_zero_or_pos b with hb0 | hb0
      · rw [hb0, Nat.add_zero]; omega
      · have := JC (M := M) (qs := qs) (a := a) (b := a + b) (by omega) (by omega);unfold lexB keyS at this;omega
    have h3 : (qs.sum - 1) * a < kz M qs.sum qs qs.length * qs.sum := by
      have h4 : (qs.sum - 1) * a ≤ qs.sum * a := Nat.mul_le_mul_right _ (by omega);have h5 : (a + 1) * qs.sum ≤ kz M qs.sum qs qs.length * qs.sum := Nat.mul_le_mul_right _ ha2;rw [Nat.add_mul, Nat.mul_comm a] at h5;omega
    rw [Nat.zero_mul] at h2;omega
  · exact hz
end
theorem jf {M : Nat} {qs : List Nat} (h0 : 0 < qs.sum) {i : Nat} (hi : i < qs.length) (h : uY M qs.sum qs i < gt (ZZ M qs) i) : 0 < remN M qs.sum qs i := by
  rw [XX h0 hi] at h;by_cases ht : tkS M qs i
  · exact zde h0 ht
  · rw [if_neg ht] at h; omega
theorem jd {M : Nat} {qs : List Nat} (h0 : 0 < qs.sum) {i : Nat} (hi : i < qs.length) : uY M qs.sum qs i ≤ gt (ZZ M qs) i ∧ gt (ZZ M qs) i ≤ uY M qs.sum qs i + 1 := by
  rw [XX h0 hi]; split <;> omega
end Go.Ti
namespace Go.Ti
open Go.W (gt wX)
section
variable {X : Till} {w : Bool} {a : Nat}
end
section
variable {X : Till} {w : Bool} {a : Nat}
end
end Go.Ti
namespace Go.Ti
open Go.W (gt wX)
def zlk (a b : Ent) : Prop := a.ticket = b.ticket ∧ a.kind = b.kind
def Kg (X : Till) (l : List Ent) : Prop := l.Pairwise (fun a b => ¬ zlk a b) ∧ ∀ e, e ∈ l → Zm X e.ticket e.pence e.kind.toNat = true
section
variable {X : Till} {l : List Ent}
end
end Go.Ti
namespace Go.Ti
open Go.W (gt wX)
structure zlp (X : Till) (l : List Ent) (i k : Nat) (F : List Ent) : Prop where
  sub : l.Sublist F
  inn : ∀ e, e ∈ F → e ∈ l ∨ ∃ a j : Nat, (a < i ∨ a = i ∧ j < k) ∧ e.ticket = (a : Int) ∧ e.kind = ((j + 1 : Nat) : Int)
  has : ∀ a j : Nat, (a < i ∨ a = i ∧ j < k) → j < 3 → zlc X l (j + 1) a = true → zM F (a : Int) ((j + 1 : Nat) : Int) = true
  rt : Kg X l → Kg X F
  ok : F.all (entB X) = true
  len : F.length ≤ l.length + 3 * i + k
theorem qC (f : Nat → Bool) : ∀ n i, (xN f n).testBit i = (decide (i < n) && f i) := by
  intro n
  induction n with
  | zero => intro i; simp [xN]
  | succ n ih =>
    intro i;have hlt := qB f n;have hlt2 := qB f (n + 1);rcases Nat.lt_trichotomy i n with h | h | h
    · unfold xN;by_cases hf : f n = true
      · rw [if_pos hf, Nat.add_comm, Nat.testBit_two_pow_add_gt h, ih, decide_eq_true h, decide_eq_true (show i < n + 1 by omega)]
      · rw [if_neg hf, Nat.add_zero, ih, decide_eq_true h, decide_eq_true (show i < n + 1 by omega)]
    · subst h;unfold xN;by_cases hf : f i = true
      · rw [if_pos hf, Nat.add_comm, Nat.testBit_two_pow_add_eq, Nat.testBit_lt_two_pow hlt, hf]; simp
      · rw [if_neg hf, Nat.add_zero, Nat.testBit_lt_two_pow hlt]; simp [hf]
    · rw [Nat.testBit_lt_two_pow (Nat.lt_of_lt_of_le hlt2 (Nat.pow_le_pow_right (by omega) (by omega))), decide_eq_false (by omega)]; rfl
end Go.Ti
