import Derived.Test.YtaebnllfmkcpgaaGreatDoorYFC
import Derived.Test.YtaebnllfmkcpgaaGreatDoorXH
set_option linter.unusedSimpArgs false
set_option linter.unusedVariables false
set_option linter.all false
set_option maxRecDepth 100000
set_option maxHeartbeats 1000000
namespace Go.Proofs.YtaebnllfmkcpgaaGreatDoor
open Go.W Go.Bk

theorem wrh_ok {h : Hors} : (wrH h).2 = 0 ↔ horsB h = true := by
  unfold wrH; split <;> simp_all
theorem wrh_e (h : Hors) : (wrH h).2 = 0 ∨ (wrH h).2 = 1 := by
  unfold wrH; split <;> simp
theorem wrh_off {h : Hors} (h0 : ¬ (wrH h).2 = 0) : wrH h = ([], 1) := wrH_no (by
  cases e : horsB h with
  | true => exact absurd (wrh_ok.2 e) h0
  | false => rfl)
end Go.Proofs.YtaebnllfmkcpgaaGreatDoor
