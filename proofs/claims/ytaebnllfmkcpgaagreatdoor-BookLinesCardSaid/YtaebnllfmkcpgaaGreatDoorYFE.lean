import Derived.Test.YtaebnllfmkcpgaaGreatDoorYFC
import Derived.Test.YtaebnllfmkcpgaaGreatDoorXH
set_option linter.unusedSimpArgs false
set_option linter.unusedVariables false
set_option linter.all false
set_option maxRecDepth 100000
set_option maxHeartbeats 1000000
namespace Go.Proofs.YtaebnllfmkcpgaaGreatDoor
open Go.W Go.Bk

def eC (x : Int) : List Value := [it x]
theorem wr_ok {X : Type} {is : X → Bool} {put : X → Bs} {x : X} : (wrO is put x).2 = 0 ↔ is x = true := by
  unfold wrO; split <;> simp_all
end Go.Proofs.YtaebnllfmkcpgaaGreatDoor
