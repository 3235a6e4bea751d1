import Derived.Test.YtkhmmefgllbobaaXR
set_option linter.unusedSimpArgs false
set_option linter.unusedVariables false
set_option linter.all false
namespace Go.Po
open Go.W
set_option maxRecDepth 100000 in
theorem stg20 : blkS (List.range (2 ^ 8)) = some (stg 20 256) := of_decide_eq_true (by kernel_rfl)
set_option maxRecDepth 100000 in
theorem stg40 : mrgS 20 (stg 20 256) = some (stg 40 256) := of_decide_eq_true (by kernel_rfl)
set_option maxRecDepth 100000 in
theorem stg80 : mrgS 40 (stg 40 256) = some (stg 80 256) := of_decide_eq_true (by kernel_rfl)
end Go.Po
