import Derived.Test.YtaebnllfmkcpgaaGreatDoorYFE
set_option linter.unusedSimpArgs false
set_option linter.unusedVariables false
set_option linter.all false
set_option maxRecDepth 100000
set_option maxHeartbeats 1000000
namespace Go.Proofs.YtaebnllfmkcpgaaGreatDoor
open Go.W Go.Bk

theorem neSelf {a b : Bool} (h : b = a) : (a != b) = false := by subst h; cases b <;> rfl
end Go.Proofs.YtaebnllfmkcpgaaGreatDoor
