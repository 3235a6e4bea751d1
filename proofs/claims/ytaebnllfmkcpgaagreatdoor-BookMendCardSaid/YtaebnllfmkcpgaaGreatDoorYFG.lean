import Derived.Test.YtaebnllfmkcpgaaGreatDoorYFF
set_option linter.unusedSimpArgs false
set_option linter.unusedVariables false
set_option linter.all false
set_option maxRecDepth 100000
set_option maxHeartbeats 1000000
namespace Go.Proofs.YtaebnllfmkcpgaaGreatDoor
open Go.W Go.Bk

def fineB (b : Bs) : Bool := decide (2 ≤ b.length) && b.all fun x => decide (x.toNat < 251)
theorem fine_iff {b : Bs} (h : b.length ≤ 250) : fineB b = true ↔ openE b = 0 := by
  rw [openE_iff]
  simp only [fineB, Bool.and_eq_true, decide_eq_true_eq, List.all_eq_true]
  exact ⟨fun h1 => ⟨h1.1, h, h1.2⟩, fun h1 => ⟨h1.lo, h1.all⟩⟩
def fineK (b : Bs) (k : Nat) : Bool := decide (2 ≤ b.length) && (b.take k).all fun x => decide (x.toNat < 251)
theorem fineK_succ {b : Bs} {k : Nat} (hk : k < b.length) : fineK b (k + 1) = (fineK b k && decide ((gt b k).toNat < 251)) := by
  unfold fineK
  rw [take_gt hk, List.all_append, Bool.and_assoc]; simp
theorem fineK_all (b : Bs) : fineK b b.length = fineB b := by unfold fineK fineB; rw [List.take_length]

end Go.Proofs.YtaebnllfmkcpgaaGreatDoor
