import Derived.Test.YtaebnllfmkcpgaaGreatDoorXK
set_option linter.unusedSimpArgs false
set_option linter.unusedVariables false
set_option linter.all false
set_option maxRecDepth 100000
set_option maxHeartbeats 1000000
/- Texts in plain words, 2: no text is too long; what is no text of anything. -/
namespace Go.Bk
/-! ### no text is longer than the limit -/
theorem spanT_le {s : Sp} (h : Sp100 s) : (spanT s).length ≤ 6 := by
  have h1 := num_len h.1; have h2 := num_len h.2
  unfold spanT; split <;> simp <;> omega
/-! ### what is no text -/
structure Kind {X : Type} (is : X → Bool) (put : X → Bs) (L : X → List Bs) (c d : UInt8) : Prop where
  eq : ∀ x, put x = unl (L x)
  flat : ∀ x, is x = true → ∀ l ∈ L x, flat l
  head : ∀ x, ∃ r ls, L x = (c :: d :: r) :: ls
  big : ∀ x, ∀ l ∈ L x, ∃ e r, l = e :: r ∧ 97 ≤ e.toNat
  ne : c ≠ d
theorem unl_last : ∀ (ls : List Bs), ls ≠ [] → ∃ p, unl ls = p ++ [10]
  | [l], _ => ⟨l, by simp [unl]⟩
  | l :: m :: ls, _ => by
    obtain ⟨p, hp⟩ := unl_last (m :: ls) (by simp)
    exact ⟨l ++ 10 :: p, by rw [unl_cons, hp]; simp⟩
section
variable {X : Type} {is : X → Bool} {put : X → Bs} {L : X → List Bs} {c d : UInt8} (K : Kind is put L c d)
include K
theorem Kind.last (x : X) : ∃ p, put x = p ++ [10] := by
  obtain ⟨r, ls, e⟩ := K.head x
  rw [K.eq]; exact unl_last _ (by rw [e]; simp)
theorem Kind.front (x : X) : ∃ r, put x = c :: d :: r := by
  obtain ⟨r, ls, e⟩ := K.head x
  rw [K.eq, e, unl_cons]; exact ⟨_, rfl⟩
end
theorem Kind.other {X Y : Type} {is : X → Bool} {put : X → Bs} {L : X → List Bs} {c d : UInt8} {is2 : Y → Bool} {put2 : Y → Bs} {L2 : Y → List Bs} {c2 d2 : UInt8} (K : Kind is put L c d) (K2 : Kind is2 put2 L2 c2 d2) (h : c ≠ c2) (x : X) (y : Y) : put x ≠ put2 y := fun e => by
  obtain ⟨r, h1⟩ := K.front x
  obtain ⟨r2, h2⟩ := K2.front y
  rw [h1, h2] at e
  exact h (List.cons.inj e).1
theorem readX_bad {X : Type} {z : X} {take : X → Nat → Bs → Option X} {is : X → Bool} {put : X → Bs} {s : Bs} (h : ∀ y, is y = true → put y ≠ s) : (readX z take is put s).2 = if 1200 < s.length then 3 else 8 := by
  by_cases e : (readX z take is put s).2 = 0
  · obtain ⟨x, hx⟩ := readX_err e
    obtain ⟨h1, h2, _⟩ := readX_of hx
    exact absurd h2 (h x h1)
  · rw [readX_no e]
end Go.Bk
