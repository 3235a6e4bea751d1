import Derived.Test.YtaebnllfmkcpgaaGreatDoorXW
import Derived.Test.YtaebnllfmkcpgaaGreatDoorXH
set_option linter.unusedSimpArgs false
set_option linter.unusedVariables false
set_option linter.all false
set_option maxRecDepth 100000
set_option maxHeartbeats 1000000
namespace Go.Proofs.YtaebnllfmkcpgaaGreatDoor
open Go.W Go.Bk

theorem mend4 {b : Bs} (hf : FormOk b) : (mendP b).2 = 4 ↔ Rt b := by
  constructor
  · intro h
    by_cases hr : Rt b
    · exact hr
    · rcases mendP_not hf hr with ⟨_, _, _, _, _, _, e⟩ | e <;> rw [e] at h <;> simp at h
  · intro hr; rw [mendP_right hf hr]
theorem mendE {b : Bs} (hf : FormOk b) : ((mendP b).2 = 0 ∨ (mendP b).2 = 4 ∨ (mendP b).2 = 11) ∧ ((mendP b).2 ≠ 0 → (mendP b).1 = []) := by
  by_cases hr : Rt b
  · rw [mendP_right hf hr]; exact ⟨.inr (.inl rfl), fun _ => rfl⟩
  · rcases mendP_not hf hr with ⟨_, _, _, _, _, _, e⟩ | e <;> rw [e]
    · exact ⟨.inl rfl, fun h => absurd rfl h⟩
    · exact ⟨.inr (.inr rfl), fun _ => rfl⟩
theorem mendZ {b : Bs} (hf : FormOk b) (h : (mendP b).2 = 0) : ∃ i x, i < b.length ∧ x.toNat < 251 ∧ x ≠ b.getD i 0 ∧ Rt (b.set i x) ∧ mendP b = (b.set i x, 0) := by
  by_cases hr : Rt b
  · rw [mendP_right hf hr] at h; simp at h
  · rcases mendP_not hf hr with h1 | e
    · exact h1
    · rw [e] at h; simp at h
/-- Mend with its result as an immutable list -/
theorem mendF_g (l : Bs) (a : Option Addr) (n c : Nat) (D : Imm) (hS : SlL D 1 (l.map btC) a n) (hn : n ≤ 2 ^ 19) (hc : n ≤ c) (w : World) (hH : Holds D w) : Makes Tryz.prog 25 [.slice a n c] w D (fun v D' => ∃ a' n' c', v = .tuple #[.slice a' n' c', it (mendP l).2] ∧ SlL D' 1 ((mendP l).1.map btC) a' n' ∧ n' ≤ c') :=
  Calls.mono (Mend_g l a n c D hS hn hc w hH) fun e w1 ⟨v, D', h', h1, h2, h3, h4, h5⟩ => by
    obtain rfl := h4
    rcases h5 with ⟨e0, b, rfl, rfl, hb⟩ | ⟨e0, e1, rfl, rfl⟩
    · refine ⟨_, _, h1, h3.keep, h3.freeze.imm, (DExt.refl w D).add (h3.apart _ _ (List.mem_cons_self)) hb, _, _, _, by rw [e0], SlL.ofBlock (f := btC) (m := 1) (rest := []) btC_len (Imm.add_self _ _ _), Nat.le_refl _⟩
    · exact ⟨_, _, h1, h3.keep, h3.imm, h2, none, 0, 0, rfl, by rw [e1]; exact SlL.nil _ _, Nat.le_refl _⟩

end Go.Proofs.YtaebnllfmkcpgaaGreatDoor
