import Derived.Test.YtaebnllfmkcpgaaGreatDoorXN
set_option linter.unusedSimpArgs false
set_option linter.unusedVariables false
set_option linter.all false
set_option maxRecDepth 100000
set_option maxHeartbeats 1000000
namespace Go.Proofs.YtaebnllfmkcpgaaGreatDoor
open Go.W Go.Bk

end Go.Proofs.YtaebnllfmkcpgaaGreatDoor
namespace Go.Bk
open Go.W Go.Bk Go.Proofs.YtaebnllfmkcpgaaGreatDoor
theorem SurfOk.gh {s : Surf} (h : SurfOk s) {k : Nat} (hk : k < s.huts.length) : hutB s.rows (gt s.huts k) = true := by
  have h1 := h.huts _ (gtB_mem hk); unfold hutB inB; simp only [Bool.and_eq_true, decide_eq_true_eq]; exact ⟨⟨h1.1, h1.2.1⟩, h1.2.2⟩
end Go.Bk
namespace Go.Proofs.YtaebnllfmkcpgaaGreatDoor
open Go.W Go.Bk
end Go.Proofs.YtaebnllfmkcpgaaGreatDoor
namespace Go.Proofs.YtaebnllfmkcpgaaGreatDoor
open Go.W Go.Bk

end Go.Proofs.YtaebnllfmkcpgaaGreatDoor
namespace Go.Bk
open Go.W Go.Bk Go.Proofs.YtaebnllfmkcpgaaGreatDoor
theorem FlagOk.gh {f : Flag} (h : FlagOk f) {k : Nat} (hk : k < f.hours.length) : (0 ≤ (gt f.hours k).wind.lo ∧ (gt f.hours k).wind.lo ≤ (gt f.hours k).wind.hi ∧ (gt f.hours k).wind.hi ≤ 12) ∧ 0 ≤ (gt f.hours k).thunder ∧ (gt f.hours k).thunder ≤ 2 := by
  have h1 := h.hours _ (gtB_mem hk); exact ⟨spB_iff.1 h1.1, h1.2⟩
end Go.Bk
namespace Go.Proofs.YtaebnllfmkcpgaaGreatDoor
open Go.W Go.Bk
end Go.Proofs.YtaebnllfmkcpgaaGreatDoor
