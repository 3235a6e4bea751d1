import Derived.Test.YtejgofaeafphjaaGreatDoorXG30
import Derived.Test.YtejgofaeafphjaaGreatDoorXG5
import Derived.Test.YtejgofaeafphjaaGreatDoorXG7
set_option linter.all false
set_option maxRecDepth 100000
set_option maxHeartbeats 4000000
attribute [local irreducible] Go.W.WL Go.W.WLF Go.W.WC Go.W.WCF Go.W.WP Go.W.WA Go.W.WQ Go.W.WH Go.W.WHo Go.W.WCn Go.W.Yd Go.W.Qt Go.W.SO Go.Code.wp Go.Code.wpIn
namespace Go.Proofs.YtejgofaeafphjaaGreatDoor
open Go.W Go.Ti
theorem wC {x : Wick} {ls : List Bs} (h : xP x ls = false) : ls.length ≤ 70 ∧ x.marks.length ≤ 70 ∧ x.sand.length ≤ 70 ∧ ∀ q ∈ ls, q.length ≤ 300 := by
  unfold xP at h;rw [Bool.or_eq_false_iff] at h;obtain ⟨h1, h2⟩ := h;have h3 := of_decide_eq_false h2;refine ⟨?_, ?_, ?_, fun q hq => ?_⟩
  · have := Int.le_max_left (ls.length : Int) x.marks.length; have := Int.le_max_left (max (ls.length : Int) x.marks.length) x.sand.length; omega
  · have := Int.le_max_right (ls.length : Int) x.marks.length; have := Int.le_max_left (max (ls.length : Int) x.marks.length) x.sand.length; omega
  · have := Int.le_max_right (max (ls.length : Int) x.marks.length) x.sand.length; omega
  have := List.any_eq_false.1 h1 q hq;have h4 : ¬ 300 < q.length := fun e => this (decide_eq_true e);omega
theorem vt {D : Imm} {x : Wick} {m s : Sl} {ls : List Bs} (h : w9 D x m s) (hl : xP x ls = false) : yG D x m s := by
  obtain ⟨_, h2, h3, _⟩ := wC hl;have h4 := h.mark.len';have h5 := h.sand.len';exact ⟨h.mark, h.sand, by omega, by omega⟩
theorem zlB {α : Type} [DecidableEq α] (a : α) : decide (a ≠ a) = false := decide_eq_false fun h => h rfl
theorem wJ {a b : Day} (h : a = b) : (!UJ a b) = false := by rw [x6.2 h]; rfl
end Go.Proofs.YtejgofaeafphjaaGreatDoor
