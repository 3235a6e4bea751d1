import Derived.Test.YtaebnllfmkcpgaaGreatDoorXK
set_option linter.unusedSimpArgs false
set_option linter.unusedVariables false
set_option linter.all false
set_option maxRecDepth 100000
set_option maxHeartbeats 1000000
/- Horses in plain words, 2: the sums as sums, what puts one byte right, a book is read back as what was written. -/
namespace Go.Bk
/-! ### the sums as sums -/
def s1 : Bs → Nat
  | [] => 0
  | x :: r => x.toNat + s1 r
def s2 : Nat → Bs → Nat
  | _, [] => 0
  | i, x :: r => (i + 1) * x.toNat + s2 (i + 1) r
theorem mul_mod_part (i x : Nat) : ∃ k, i * x = i % 251 * x + 251 * k := ⟨i / 251 * x, by
  have h := Nat.div_add_mod i 251
  rw [← Nat.mul_assoc, ← Nat.add_mul]
  congr 1; omega⟩
theorem sumF_eq : ∀ (l : Bs) (i p q : Nat), p < 251 → q < 251 → sumF i p q l = ((p + s1 l) % 251, (q + s2 i l) % 251)
  | [], i, p, q, hp, hq => by simp [sumF, s1, s2, Nat.mod_eq_of_lt, hp, hq]
  | x :: l, i, p, q, hp, hq => by
    rw [sumF, sumF_eq l _ _ _ (Nat.mod_lt _ (by omega)) (Nat.mod_lt _ (by omega)), s1, s2]
    obtain ⟨k, hk⟩ := mul_mod_part (i + 1) x.toNat
    rw [hk]
    ext
    · simp only; omega
    · simp only; generalize (i + 1) % 251 * x.toNat = z; omega
theorem sums_eq (l : Bs) : sumsL l = (s1 l % 251, s2 0 l % 251) := by
  rw [sumsL, sumF_eq l 0 0 0 (by omega) (by omega)]; simp
theorem mul_mod_two (i x : Nat) : ∃ k, i * x = i % 251 * (x % 251) + 251 * k := by
  obtain ⟨k, hk⟩ := mul_mod_part i x
  obtain ⟨m, hm⟩ := mul_mod_part x (i % 251)
  exact ⟨k + m, by rw [hk, Nat.mul_comm (i % 251) x, hm, Nat.mul_comm (x % 251)]; omega⟩
theorem takF_eq : ∀ (l : Bs) (i p q : Nat), p < 251 → q < 251 → (takF i p q l).1 < 251 ∧ (takF i p q l).2 < 251 ∧ ((takF i p q l).1 + s1 l) % 251 = p ∧ ((takF i p q l).2 + s2 i l) % 251 = q
  | [], i, p, q, hp, hq => by simp [takF, s1, s2, Nat.mod_eq_of_lt, hp, hq]
  | x :: l, i, p, q, hp, hq => by
    rw [takF]
    obtain ⟨h1, h2, h3, h4⟩ := takF_eq l (i + 1) ((p + (251 - x.toNat % 251)) % 251) ((q + (i + 1) % 251 * (251 - x.toNat % 251)) % 251) (Nat.mod_lt _ (by omega)) (Nat.mod_lt _ (by omega))
    refine ⟨h1, h2, ?_, ?_⟩
    · rw [s1]; omega
    · rw [s2]
      obtain ⟨k, hk⟩ := mul_mod_two (i + 1) x.toNat
      have e : (i + 1) % 251 * (251 - x.toNat % 251) + (i + 1) % 251 * (x.toNat % 251) = 251 * ((i + 1) % 251) := by
        rw [← Nat.mul_add, Nat.mul_comm 251]; congr 1; omega
      rw [hk]
      generalize (i + 1) % 251 * (251 - x.toNat % 251) = y at *
      generalize (i + 1) % 251 * (x.toNat % 251) = z at *
      omega
theorem s1_set : ∀ (l : Bs) (i : Nat) (x : UInt8), i < l.length → s1 (l.set i x) + (l.getD i 0).toNat = s1 l + x.toNat
  | [], i, _, h => by simp at h
  | y :: l, 0, x, _ => by simp [s1]; omega
  | y :: l, i + 1, x, h => by
    have := s1_set l i x (by simpa using h)
    simp only [List.set_cons_succ, s1, List.getD_cons_succ]; omega
theorem s2_set : ∀ (l : Bs) (k i : Nat) (x : UInt8), i < l.length → s2 k (l.set i x) + (k + i + 1) * (l.getD i 0).toNat = s2 k l + (k + i + 1) * x.toNat
  | [], _, i, _, h => by simp at h
  | y :: l, k, 0, x, _ => by simp [s2]; omega
  | y :: l, k, i + 1, x, h => by
    have := s2_set l (k + 1) i x (by simpa using h)
    rw [show k + 1 + i + 1 = k + (i + 1) + 1 by omega] at this
    simp only [List.set_cons_succ, s2, List.getD_cons_succ]; omega
/-! ### 251 is prime -/
theorem inv_tab : ∀ b : Fin 251, b.val ≠ 0 → (b.val ^ 249 * b.val) % 251 = 1 := by decide +kernel
theorem inv251 {b : Nat} (h : 0 < b) (hb : b < 251) : ∃ c, (c * b) % 251 = 1 := ⟨b ^ 249, inv_tab ⟨b, hb⟩ (by simp; omega)⟩
theorem mul_cancel251 {j b c : Nat} (hc : (c * b) % 251 = 1) (hj : j < 251) : (j * b % 251) * c % 251 = j := by
  rw [Nat.mod_mul_mod, Nat.mul_assoc, Nat.mul_comm b c, Nat.mul_mod, hc, Nat.mul_one, Nat.mod_mod, Nat.mod_eq_of_lt hj]
theorem quo_uniq {b j k : Nat} (h0 : 0 < b) (hb : b < 251) (hj : j < 251) (hk : k < 251) (h : j * b % 251 = k * b % 251) : j = k := by
  obtain ⟨c, hc⟩ := inv251 h0 hb
  rw [← mul_cancel251 hc hj, h, mul_cancel251 hc hk]
theorem quo_ex {a b : Nat} (h0 : 0 < b) (hb : b < 251) (ha : a < 251) : ∃ k, k < 251 ∧ k * b % 251 = a := by
  obtain ⟨c, hc⟩ := inv251 h0 hb
  exact ⟨a * c % 251, Nat.mod_lt _ (by omega), by rw [Nat.mod_mul_mod, Nat.mul_assoc, Nat.mul_mod, hc, Nat.mul_one, Nat.mod_mod, Nat.mod_eq_of_lt ha]⟩
theorem quoN_spec {a b : Nat} (h0 : 0 < b) (hb : b < 251) (ha : a < 251) : quoN a b < 251 ∧ quoN a b * b % 251 = a := by
  unfold quoN
  cases e : (List.range 251).find? fun q => q * b % 251 == a with
  | none =>
    obtain ⟨k, hk, hh⟩ := quo_ex h0 hb ha
    have := List.find?_eq_none.1 e k (List.mem_range.2 hk)
    simp [hh] at this
  | some q =>
    have h1 := List.find?_some e
    have h2 := List.mem_of_find?_eq_some e
    exact ⟨List.mem_range.1 h2, by simpa using h1⟩
theorem quoN_is {a b k : Nat} (h0 : 0 < b) (hb : b < 251) (ha : a < 251) (hk : k < 251) (h : k * b % 251 = a) : quoN a b = k :=
  quo_uniq h0 hb (quoN_spec h0 hb ha).1 hk ((quoN_spec h0 hb ha).2.trans h.symm)
/-! ### files as body and sums -/
theorem split2 {b : Bs} (h : 2 ≤ b.length) : ∃ l t u, b = l ++ [t, u] := by
  refine ⟨b.take (b.length - 2), b[b.length - 2], b[b.length - 1], ?_⟩
  have h1 : b.drop (b.length - 2) = [b[b.length - 2], b[b.length - 1]] := by
    rw [List.drop_eq_getElem_cons (by omega), List.drop_eq_getElem_cons (by omega), List.drop_of_length_le (by omega)]
    congr 3; omega
  rw [← h1, List.take_append_drop]
theorem body_at (l : Bs) (t u : UInt8) : bodyL (l ++ [t, u]) = l := by simp [bodyL]
theorem tail_at (l : Bs) (t u : UInt8) : tailN (l ++ [t, u]) = (t.toNat, u.toNat) := by
  simp [tailN, List.getD]
theorem ofNat_toNat {n : Nat} (h : n < 256) : (UInt8.ofNat n).toNat = n := UInt8.toNat_ofNat_of_lt' h
theorem ofNat_of (x : UInt8) : UInt8.ofNat x.toNat = x := by simp
theorem byte_eq {x y : UInt8} (h : x.toNat = y.toNat) : x = y := UInt8.toNat_inj.1 h
theorem seal_iff (l : Bs) (t u : UInt8) : sealL (bodyL (l ++ [t, u])) = l ++ [t, u] ↔ t.toNat = s1 l % 251 ∧ u.toNat = s2 0 l % 251 := by
  rw [body_at, sealL, sums_eq]
  simp only [List.append_cancel_left_eq, List.cons.injEq, and_true]
  constructor
  · rintro ⟨rfl, rfl⟩
    exact ⟨ofNat_toNat (by omega), ofNat_toNat (by omega)⟩
  · rintro ⟨h1, h2⟩
    rw [← h1, ← h2]; exact ⟨ofNat_of _, ofNat_of _⟩
theorem tail_iff (l : Bs) (t u : UInt8) : tailN (l ++ [t, u]) = sumsL (bodyL (l ++ [t, u])) ↔ t.toNat = s1 l % 251 ∧ u.toNat = s2 0 l % 251 := by
  rw [body_at, tail_at, sums_eq]; simp
theorem right_iff {b : Bs} (h : 2 ≤ b.length) : sealL (bodyL b) = b ↔ tailN b = sumsL (bodyL b) := by
  obtain ⟨l, t, u, rfl⟩ := split2 h
  rw [seal_iff, tail_iff]
/-- the form of a file -/
structure FormOk (b : Bs) : Prop where
  lo : 2 ≤ b.length
  hi : b.length ≤ 250
  all : ∀ x ∈ b, x.toNat < 251
theorem openE_iff {b : Bs} : openE b = 0 ↔ FormOk b := by
  unfold openE
  constructor
  · intro h
    split at h
    · cases h
    · split at h
      · rename_i h1 h2
        exact ⟨h2.1, by omega, fun x hx => by have := List.any_eq_false.1 h2.2 x hx; simpa using this⟩
      · cases h
  · intro h
    rw [if_neg (by have := h.hi; omega), if_pos ⟨h.lo, List.any_eq_false.2 fun x hx => by have := h.all x hx; simpa using this⟩]
theorem openE_val (b : Bs) : openE b = 0 ∨ (openE b = 3 ∧ 250 < b.length) ∨ (openE b = 8 ∧ b.length ≤ 250) := by
  unfold openE
  split
  · exact .inr (.inl ⟨rfl, by assumption⟩)
  · split
    · exact .inl rfl
    · exact .inr (.inr ⟨rfl, by omega⟩)
theorem FormOk.set {b : Bs} (h : FormOk b) (i : Nat) {x : UInt8} (hx : x.toNat < 251) : FormOk (b.set i x) :=
  ⟨by rw [List.length_set]; exact h.lo, by rw [List.length_set]; exact h.hi, fun y hy => by
    rcases List.mem_or_eq_of_mem_set hy with hy | rfl
    · exact h.all y hy
    · exact hx⟩
/-! ### one byte put right -/
abbrev Rt (b : Bs) : Prop := sealL (bodyL b) = b
theorem set_body {l : Bs} {t u x : UInt8} {i : Nat} (h : i < l.length) : (l ++ [t, u]).set i x = l.set i x ++ [t, u] := by
  rw [List.set_append_left _ _ h]
theorem set_t {l : Bs} {t u x : UInt8} : (l ++ [t, u]).set l.length x = l ++ [x, u] := by
  rw [List.set_append_right _ _ (Nat.le_refl _)]; simp
theorem set_u {l : Bs} {t u x : UInt8} : (l ++ [t, u]).set (l.length + 1) x = l ++ [t, x] := by
  rw [List.set_append_right _ _ (by omega)]; simp
theorem getD_body {l : Bs} {t u : UInt8} {i : Nat} (h : i < l.length) : (l ++ [t, u]).getD i 0 = l.getD i 0 := by
  simp [List.getD, List.getElem?_append_left h]
theorem idx3 {l : Bs} {t u : UInt8} {i : Nat} (h : i < (l ++ [t, u]).length) : i < l.length ∨ i = l.length ∨ i = l.length + 1 := by
  simp at h; omega
theorem lack_at (l : Bs) (t u : UInt8) (ht : t.toNat < 251) (hu : u.toNat < 251) : (lackN (l ++ [t, u])).1 < 251 ∧ (lackN (l ++ [t, u])).2 < 251 ∧ ((lackN (l ++ [t, u])).1 + s1 l) % 251 = t.toNat ∧ ((lackN (l ++ [t, u])).2 + s2 0 l) % 251 = u.toNat := by
  unfold lackN
  rw [tail_at, body_at]
  exact takF_eq l 0 _ _ ht hu
theorem mendP_no {b : Bs} (h : openE b ≠ 0) : mendP b = ([], openE b) := if_pos h
theorem mendP_right {b : Bs} (hf : FormOk b) (hr : Rt b) : mendP b = ([], 4) := by
  unfold mendP
  rw [if_neg (by rw [openE_iff.2 hf]; omega), if_pos ((right_iff hf.lo).1 hr)]
/-- if another byte puts a file right it is mended so -/
theorem mendP_of {b : Bs} (hf : FormOk b) (hr : ¬ Rt b) {i : Nat} (hi : i < b.length) {x : UInt8} (hx : x.toNat < 251) (hr2 : Rt (b.set i x)) : mendP b = (b.set i x, 0) := by
  have h0 := openE_iff.2 hf
  have hr' : ¬ tailN b = sumsL (bodyL b) := fun e => hr ((right_iff hf.lo).2 e)
  obtain ⟨l, t, u, rfl⟩ := split2 hf.lo
  have ht : t.toNat < 251 := hf.all t (by simp)
  have hu : u.toNat < 251 := hf.all u (by simp)
  have hn : ¬ (t.toNat = s1 l % 251 ∧ u.toNat = s2 0 l % 251) := fun e => hr ((seal_iff l t u).2 e)
  obtain ⟨hP, hQ, eP, eQ⟩ := lack_at l t u ht hu
  have hlen : (l ++ [t, u]).length = l.length + 2 := by simp
  have hhi := hf.hi
  unfold mendP
  rw [if_neg (by omega), if_neg hr']
  rcases idx3 hi with h | rfl | rfl
  · rw [set_body h] at hr2
    have h2 := (seal_iff _ t u).1 hr2
    have h3 := s1_set l i x h
    have h4 := s2_set l 0 i x h
    rw [Nat.zero_add] at h4
    have hb : (l.getD i 0).toNat < 251 := by
      have : l.getD i 0 ∈ l ++ [t, u] := by simp [List.getD, h]
      exact hf.all _ this
    have hg := getD_body (t := t) (u := u) h
    generalize (lackN (l ++ [t, u])).1 = P at *
    generalize (lackN (l ++ [t, u])).2 = Q at *
    have eP2 : (P + (l.getD i 0).toNat) % 251 = x.toNat := by omega
    have hP0 : P ≠ 0 := fun e => by
      have hxb : x.toNat = (l.getD i 0).toNat := by omega
      rw [hxb] at h3 h4
      exact hn ⟨by omega, by omega⟩
    have eQ2 : (i + 1) * P % 251 = Q := by
      obtain ⟨k, hk⟩ : ∃ k, P + (l.getD i 0).toNat = x.toNat + 251 * k := ⟨(P + (l.getD i 0).toNat) / 251, by omega⟩
      have h5 := congrArg (fun z => (i + 1) * z) hk
      simp only [Nat.mul_add] at h5
      rw [show (i + 1) * (251 * k) = 251 * ((i + 1) * k) by rw [Nat.mul_left_comm]] at h5
      generalize (i + 1) * (l.getD i 0).toNat = m1 at *
      generalize (i + 1) * x.toNat = m2 at *
      generalize (i + 1) * P = m3 at *
      generalize (i + 1) * k = m4 at *
      omega
    have hq : quoN Q P = i + 1 := quoN_is (by omega) hP hQ (by omega) eQ2
    have hQ0 : Q ≠ 0 := fun e => by
      have := quo_uniq (b := P) (j := i + 1) (k := 0) (by omega) hP (by omega) (by omega) (by rw [eQ2, e]; simp)
      omega
    rw [if_neg hQ0, if_neg hP0, hq, if_pos ⟨by omega, by rw [hlen]; omega⟩]
    rw [show i + 1 - 1 = i by omega, hg, Nat.add_comm, eP2, ofNat_of]
  · rw [set_t] at hr2
    have h2 := (seal_iff _ _ _).1 hr2
    rw [if_pos (by omega), hlen, show l.length + 2 - 2 = l.length by omega, body_at, sums_eq]
    simp only
    rw [← h2.1, ofNat_of]
  · rw [set_u] at hr2
    have h2 := (seal_iff _ _ _).1 hr2
    rw [if_neg (by omega), if_pos (by omega), hlen, show l.length + 2 - 1 = l.length + 1 by omega, body_at, sums_eq]
    simp only
    rw [← h2.2, ofNat_of]
/-- what is mended is right, and differs in one byte; else it is refused -/
theorem mendP_not {b : Bs} (hf : FormOk b) (hr : ¬ Rt b) : (∃ i x, i < b.length ∧ x.toNat < 251 ∧ x ≠ b.getD i 0 ∧ Rt (b.set i x) ∧ mendP b = (b.set i x, 0)) ∨ mendP b = ([], 11) := by
  have h0 := openE_iff.2 hf
  have hr' : ¬ tailN b = sumsL (bodyL b) := fun e => hr ((right_iff hf.lo).2 e)
  obtain ⟨l, t, u, rfl⟩ := split2 hf.lo
  have ht : t.toNat < 251 := hf.all t (by simp)
  have hu : u.toNat < 251 := hf.all u (by simp)
  have hn : ¬ (t.toNat = s1 l % 251 ∧ u.toNat = s2 0 l % 251) := fun e => hr ((seal_iff l t u).2 e)
  obtain ⟨hP, hQ, eP, eQ⟩ := lack_at l t u ht hu
  have hlen : (l ++ [t, u]).length = l.length + 2 := by simp
  have hhi := hf.hi
  have key : ∀ i x, i < (l ++ [t, u]).length → x.toNat < 251 → Rt ((l ++ [t, u]).set i x) → x ≠ (l ++ [t, u]).getD i 0 := fun i x hi _ hR e => by
    rw [e] at hR
    have : (l ++ [t, u]).set i ((l ++ [t, u]).getD i 0) = l ++ [t, u] := by
      have : (l ++ [t, u]).getD i 0 = (l ++ [t, u])[i] := by simp only [List.getD, List.getElem?_eq_getElem hi, Option.getD_some]
      rw [this, List.set_getElem_self]
    rw [this] at hR
    exact hr hR
  by_cases hQ0 : (lackN (l ++ [t, u])).2 = 0
  · refine .inl ?_
    have hx : (UInt8.ofNat (s1 l % 251)).toNat = s1 l % 251 := ofNat_toNat (by omega)
    have hR : Rt ((l ++ [t, u]).set l.length (UInt8.ofNat (s1 l % 251))) := by
      rw [set_t]; exact (seal_iff _ _ _).2 ⟨hx, by omega⟩
    exact ⟨l.length, _, by omega, by omega, key _ _ (by omega) (by omega) hR, hR, mendP_of hf hr (by omega) (by omega) hR⟩
  by_cases hP0 : (lackN (l ++ [t, u])).1 = 0
  · refine .inl ?_
    have hx : (UInt8.ofNat (s2 0 l % 251)).toNat = s2 0 l % 251 := ofNat_toNat (by omega)
    have hR : Rt ((l ++ [t, u]).set (l.length + 1) (UInt8.ofNat (s2 0 l % 251))) := by
      rw [set_u]; exact (seal_iff _ _ _).2 ⟨by omega, hx⟩
    exact ⟨l.length + 1, _, by omega, by omega, key _ _ (by omega) (by omega) hR, hR, mendP_of hf hr (by omega) (by omega) hR⟩
  obtain ⟨hq1, hq2⟩ := quoN_spec (Nat.pos_of_ne_zero hP0) hP hQ
  by_cases hq : 1 ≤ quoN (lackN (l ++ [t, u])).2 (lackN (l ++ [t, u])).1 ∧ quoN (lackN (l ++ [t, u])).2 (lackN (l ++ [t, u])).1 ≤ l.length
  · refine .inl ?_
    generalize hz : quoN (lackN (l ++ [t, u])).2 (lackN (l ++ [t, u])).1 = z at *
    obtain ⟨i, rfl⟩ : ∃ i, z = i + 1 := ⟨z - 1, by omega⟩
    have hil : i < l.length := by omega
    have hb : (l.getD i 0).toNat < 251 := by
      have : l.getD i 0 ∈ l ++ [t, u] := by simp [List.getD, hil]
      exact hf.all _ this
    have hx : (UInt8.ofNat (((l.getD i 0).toNat + (lackN (l ++ [t, u])).1) % 251)).toNat = ((l.getD i 0).toNat + (lackN (l ++ [t, u])).1) % 251 := ofNat_toNat (by omega)
    have hR : Rt ((l ++ [t, u]).set i (UInt8.ofNat (((l.getD i 0).toNat + (lackN (l ++ [t, u])).1) % 251))) := by
      rw [set_body hil]
      refine (seal_iff _ _ _).2 ?_
      have h3 := s1_set l i (UInt8.ofNat (((l.getD i 0).toNat + (lackN (l ++ [t, u])).1) % 251)) hil
      have h4 := s2_set l 0 i (UInt8.ofNat (((l.getD i 0).toNat + (lackN (l ++ [t, u])).1) % 251)) hil
      rw [hx] at h3 h4
      rw [Nat.zero_add] at h4
      generalize (lackN (l ++ [t, u])).1 = P at *
      generalize (lackN (l ++ [t, u])).2 = Q at *
      generalize l.set i (UInt8.ofNat (((l.getD i 0).toNat + P) % 251)) = l' at *
      refine ⟨by omega, ?_⟩
      obtain ⟨k, hk⟩ : ∃ k, P + (l.getD i 0).toNat = ((l.getD i 0).toNat + P) % 251 + 251 * k := ⟨((l.getD i 0).toNat + P) / 251, by omega⟩
      have h5 := congrArg (fun z => (i + 1) * z) hk
      simp only [Nat.mul_add] at h5
      rw [show (i + 1) * (251 * k) = 251 * ((i + 1) * k) by rw [Nat.mul_left_comm]] at h5
      generalize (i + 1) * (l.getD i 0).toNat = m1 at *
      generalize (i + 1) * (((l.getD i 0).toNat + P) % 251) = m2 at *
      generalize (i + 1) * P = m3 at *
      generalize (i + 1) * k = m4 at *
      omega
    exact ⟨i, _, by omega, by omega, key _ _ (by omega) (by omega) hR, hR, mendP_of hf hr (by omega) (by omega) hR⟩
  · refine .inr ?_
    unfold mendP
    rw [if_neg (by omega), if_neg hr', if_neg hQ0, if_neg hP0, if_neg (by rw [hlen]; simpa using hq)]
/-! ### numbers in bytes -/
end Go.Bk
