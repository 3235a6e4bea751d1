import Derived.Test.YtaebnllfmkcpgaaGreatDoorXW
import Derived.Test.YtaebnllfmkcpgaaGreatDoorXH
set_option linter.unusedSimpArgs false
set_option linter.unusedVariables false
set_option linter.all false
set_option maxRecDepth 100000
set_option maxHeartbeats 1000000
namespace Go.Proofs.YtaebnllfmkcpgaaGreatDoor
open Go.W Go.Bk

end Go.Proofs.YtaebnllfmkcpgaaGreatDoor
