import Derived.Test.YtejgofaeafphjaaGreatDoorXG40
import Derived.Test.YtejgofaeafphjaaGreatDoorXG5
import Derived.Test.YtejgofaeafphjaaGreatDoorXG7
set_option linter.all false
set_option maxRecDepth 100000
set_option maxHeartbeats 4000000
attribute [local irreducible] Go.W.WL Go.W.WLF Go.W.WC Go.W.WCF Go.W.WP Go.W.WA Go.W.WQ Go.W.WH Go.W.WHo Go.W.WCn Go.W.Yd Go.W.Qt Go.W.SO Go.Code.wp Go.Code.wpIn
namespace Go.Proofs.YtejgofaeafphjaaGreatDoor
open Go.W Go.Ti
theorem wC {x : Wick} {ls : List Bs} (h : xP x ls = false) : ls.length ≤ 70 ∧ x.marks.length ≤ 70 ∧ x.sand.length ≤ 70 ∧ ∀ q ∈ ls, q.length ≤ 300 := by
  unfold xP at h;rw [Bool.or_eq_false_iff] at h;obtain ⟨h1, h2⟩ := h;have h3 := of_decide_eq_false h2;refine ⟨?_, ?_, ?_, fun q hq => ?_⟩
  · have := Int.le_max_left (ls.length : Int) x.marks.length; have := Int.le_max_left (max (ls.length : Int) x.marks.length) x.sand.length; omega
  · have := Int.le_max_right (ls.length : Int) x.marks.length; have := Int.le_max_left (max (ls.length : Int) x.marks.length) x.sand.length; omega
  · have := Int.le_max_right (max (ls.length : Int) x.marks.length) x.sand.length; omega
  have := List.any_eq_false.1 h1 q hq;have h4 : ¬ 300 < q.length := fun e => this (decide_eq_true e);omega
theorem vt {D : Imm} {x : Wick} {m s : Sl} {ls : List Bs} (h : w9 D x m s) (hl : xP x ls = false) : yG D x m s := by
  obtain ⟨_, h2, h3, _⟩ := wC hl;have h4 := h.mark.len';have h5 := h.sand.len';exact ⟨h.mark, h.sand, by omega, by omega⟩
theorem xx {a b : Bool} (h : a = b) : some (Value.bool a) = some (Value.bool b) := by rw [h]
theorem yZ {n : Int} (h : numK n) : i64B n := ⟨by have := h.1; omega, by have := h.2; omega⟩
theorem jx {s : Bs} {ns : List Int} (h : ∀ n ∈ ns, i64B n) (hs : s.length ≤ 1000) (hn : ns.length ≤ 100) : (repL s ns).length ≤ 2 ^ 20 := by
  have := UE s ns h;omega
theorem wJ {a b : Day} (h : a = b) : (!UJ a b) = false := by rw [x6.2 h]; rfl
theorem vx {a n : Int} (hn : 0 < n) (hn2 : n ≤ 1000) : numK (a % n) := ⟨Int.emod_nonneg _ (by omega), by have := Int.emod_lt_of_pos a hn; omega⟩
end Go.Proofs.YtejgofaeafphjaaGreatDoor
