import Derived.Test.YtaebnllfmkcpgaaGreatDoorXK
set_option linter.unusedSimpArgs false
set_option linter.unusedVariables false
set_option linter.all false
set_option maxRecDepth 100000
set_option maxHeartbeats 1000000
/- Horses in plain words, 2: the sums as sums, what puts one byte right, a book is read back as what was written. -/
namespace Go.Bk
/-! ### the sums as sums -/
def s1 : Bs → Nat
  | [] => 0
  | x :: r => x.toNat + s1 r
def s2 : Nat → Bs → Nat
  | _, [] => 0
  | i, x :: r => (i + 1) * x.toNat + s2 (i + 1) r
theorem mul_mod_part (i x : Nat) : ∃ k, i * x = i % 251 * x + 251 * k := ⟨i / 251 * x, by
  have h := Nat.div_add_mod i 251
  rw [← Nat.mul_assoc, ← Nat.add_mul]
  congr 1; omega⟩
theorem sumF_eq : ∀ (l : Bs) (i p q : Nat), p < 251 → q < 251 → sumF i p q l = ((p + s1 l) % 251, (q + s2 i l) % 251)
  | [], i, p, q, hp, hq => by simp [sumF, s1, s2, Nat.mod_eq_of_lt, hp, hq]
  | x :: l, i, p, q, hp, hq => by
    rw [sumF, sumF_eq l _ _ _ (Nat.mod_lt _ (by omega)) (Nat.mod_lt _ (by omega)), s1, s2]
    obtain ⟨k, hk⟩ := mul_mod_part (i + 1) x.toNat
    rw [hk]
    ext
    · simp only; omega
    · simp only; generalize (i + 1) % 251 * x.toNat = z; omega
theorem sums_eq (l : Bs) : sumsL l = (s1 l % 251, s2 0 l % 251) := by
  rw [sumsL, sumF_eq l 0 0 0 (by omega) (by omega)]; simp
/-! ### 251 is prime -/
/-! ### files as body and sums -/
theorem split2 {b : Bs} (h : 2 ≤ b.length) : ∃ l t u, b = l ++ [t, u] := by
  refine ⟨b.take (b.length - 2), b[b.length - 2], b[b.length - 1], ?_⟩
  have h1 : b.drop (b.length - 2) = [b[b.length - 2], b[b.length - 1]] := by
    rw [List.drop_eq_getElem_cons (by omega), List.drop_eq_getElem_cons (by omega), List.drop_of_length_le (by omega)]
    congr 3; omega
  rw [← h1, List.take_append_drop]
theorem body_at (l : Bs) (t u : UInt8) : bodyL (l ++ [t, u]) = l := by simp [bodyL]
theorem tail_at (l : Bs) (t u : UInt8) : tailN (l ++ [t, u]) = (t.toNat, u.toNat) := by
  simp [tailN, List.getD]
theorem ofNat_toNat {n : Nat} (h : n < 256) : (UInt8.ofNat n).toNat = n := UInt8.toNat_ofNat_of_lt' h
theorem ofNat_of (x : UInt8) : UInt8.ofNat x.toNat = x := by simp
theorem seal_iff (l : Bs) (t u : UInt8) : sealL (bodyL (l ++ [t, u])) = l ++ [t, u] ↔ t.toNat = s1 l % 251 ∧ u.toNat = s2 0 l % 251 := by
  rw [body_at, sealL, sums_eq]
  simp only [List.append_cancel_left_eq, List.cons.injEq, and_true]
  constructor
  · rintro ⟨rfl, rfl⟩
    exact ⟨ofNat_toNat (by omega), ofNat_toNat (by omega)⟩
  · rintro ⟨h1, h2⟩
    rw [← h1, ← h2]; exact ⟨ofNat_of _, ofNat_of _⟩
theorem tail_iff (l : Bs) (t u : UInt8) : tailN (l ++ [t, u]) = sumsL (bodyL (l ++ [t, u])) ↔ t.toNat = s1 l % 251 ∧ u.toNat = s2 0 l % 251 := by
  rw [body_at, tail_at, sums_eq]; simp
theorem right_iff {b : Bs} (h : 2 ≤ b.length) : sealL (bodyL b) = b ↔ tailN b = sumsL (bodyL b) := by
  obtain ⟨l, t, u, rfl⟩ := split2 h
  rw [seal_iff, tail_iff]
/-- the form of a file -/
structure FormOk (b : Bs) : Prop where
  lo : 2 ≤ b.length
  hi : b.length ≤ 250
  all : ∀ x ∈ b, x.toNat < 251
theorem openE_iff {b : Bs} : openE b = 0 ↔ FormOk b := by
  unfold openE
  constructor
  · intro h
    split at h
    · cases h
    · split at h
      · rename_i h1 h2
        exact ⟨h2.1, by omega, fun x hx => by have := List.any_eq_false.1 h2.2 x hx; simpa using this⟩
      · cases h
  · intro h
    rw [if_neg (by have := h.hi; omega), if_pos ⟨h.lo, List.any_eq_false.2 fun x hx => by have := h.all x hx; simpa using this⟩]
theorem openE_val (b : Bs) : openE b = 0 ∨ (openE b = 3 ∧ 250 < b.length) ∨ (openE b = 8 ∧ b.length ≤ 250) := by
  unfold openE
  split
  · exact .inr (.inl ⟨rfl, by assumption⟩)
  · split
    · exact .inl rfl
    · exact .inr (.inr ⟨rfl, by omega⟩)
theorem FormOk.set {b : Bs} (h : FormOk b) (i : Nat) {x : UInt8} (hx : x.toNat < 251) : FormOk (b.set i x) :=
  ⟨by rw [List.length_set]; exact h.lo, by rw [List.length_set]; exact h.hi, fun y hy => by
    rcases List.mem_or_eq_of_mem_set hy with hy | rfl
    · exact h.all y hy
    · exact hx⟩
/-! ### one byte put right -/
abbrev Rt (b : Bs) : Prop := sealL (bodyL b) = b
/-! ### numbers in bytes -/
def numL (h : Hors) : List Nat := [h.pace.toNat, h.moves.length] ++ h.moves.flatMap moveN
theorem numL_content (h : Hors) : (numL h).flatMap digL = contentL h := by
  simp [numL, contentL, List.flatMap_assoc, List.flatMap_cons]
theorem numL_le {h : Hors} (ok : HorsOk h) : ∀ n ∈ numL h, n ≤ 200 := fun n hn => by
  simp only [numL, List.mem_append, List.mem_flatMap, List.mem_cons, List.not_mem_nil, or_false] at hn
  have h1 := ok.pace
  have h2 := ok.n
  rcases hn with (rfl | rfl) | ⟨m, hm, hn⟩
  · omega
  · omega
  · have h3 := ok.moves m hm
    simp only [moveN, List.mem_cons, List.not_mem_nil, or_false] at hn
    omega
theorem flat4_len : ∀ l : List Mv, (l.flatMap moveN).length = 4 * l.length
  | [] => rfl
  | m :: l => by rw [List.flatMap_cons, List.length_append, flat4_len l]; simp [moveN]; omega
theorem numL_len (h : Hors) : (numL h).length = 2 + 4 * h.moves.length := by
  simp only [numL, List.length_append, flat4_len]; rfl
theorem digL_b {n : Nat} (hn : n ≤ 200) : ∀ x ∈ digL n, x.toNat < 251 := fun x hx => by
  unfold digL at hx
  split at hx
  · simp only [List.mem_singleton] at hx; subst hx; rw [ofNat_toNat (by omega)]; omega
  · simp only [List.mem_cons, List.not_mem_nil, or_false] at hx
    rcases hx with rfl | rfl <;> rw [ofNat_toNat (by omega)] <;> omega
theorem digL_l (n : Nat) : 1 ≤ (digL n).length ∧ (digL n).length ≤ 2 := by
  unfold digL; split <;> simp
theorem dig_len : ∀ ns : List Nat, ns.length ≤ (ns.flatMap digL).length ∧ (ns.flatMap digL).length ≤ 2 * ns.length
  | [] => by simp
  | n :: ns => by
    have h1 := dig_len ns
    have h2 := digL_l n
    rw [List.flatMap_cons, List.length_append, List.length_cons]; omega
theorem book_split (h : Hors) : bookL h = contentL h ++ [UInt8.ofNat (sumsL (contentL h)).1, UInt8.ofNat (sumsL (contentL h)).2] := rfl
theorem book_len {h : Hors} (ok : HorsOk h) : 4 ≤ (bookL h).length ∧ (bookL h).length ≤ 62 := by
  have h1 := dig_len (numL h)
  have h2 := numL_len h
  have h3 := ok.n
  rw [numL_content] at h1
  rw [book_split]
  simp; omega
theorem book_form {h : Hors} (ok : HorsOk h) : FormOk (bookL h) := ⟨by have := book_len ok; omega, by have := book_len ok; omega, fun x hx => by
  rw [book_split, sums_eq] at hx
  rcases List.mem_append.1 hx with hx | hx
  · rw [← numL_content] at hx
    obtain ⟨n, hn, hx⟩ := List.mem_flatMap.1 hx
    exact digL_b (numL_le ok n hn) x hx
  · simp only [List.mem_cons, List.not_mem_nil, or_false] at hx
    rcases hx with rfl | rfl <;> rw [ofNat_toNat (by omega)] <;> omega⟩
theorem book_right (h : Hors) : Rt (bookL h) := by
  rw [Rt, book_split, body_at]; rfl
theorem readH_cases (b : Bs) : (∃ h, readH b = (h, 0) ∧ horsB h = true ∧ bookL h = b) ∨ (openE b ≠ 0 ∧ readH b = (horsZ, openE b)) ∨ (openE b = 0 ∧ ¬ Rt b ∧ readH b = (horsZ, 10)) ∨ (openE b = 0 ∧ Rt b ∧ readH b = (horsZ, 8)) := by
  unfold readH
  split
  · exact .inr (.inl ⟨by assumption, rfl⟩)
  · rename_i h0
    have h0 : openE b = 0 := by omega
    have hlo := (openE_iff.1 h0).lo
    split
    · rename_i h1
      exact .inr (.inr (.inl ⟨h0, fun e => h1 ((right_iff hlo).1 e), rfl⟩))
    · rename_i h1
      have hr : Rt b := (right_iff hlo).2 (by simpa using h1)
      split
      · exact .inr (.inr (.inr ⟨h0, hr, rfl⟩))
      · split
        · split
          · rename_i h2
            exact .inl ⟨_, rfl, h2⟩
          · exact .inr (.inr (.inr ⟨h0, hr, rfl⟩))
        · exact .inr (.inr (.inr ⟨h0, hr, rfl⟩))
end Go.Bk
