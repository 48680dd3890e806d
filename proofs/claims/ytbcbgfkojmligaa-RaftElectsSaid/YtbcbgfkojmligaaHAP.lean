import Derived.Test.YtbcbgfkojmligaaHAO
/- What functions of the program answer, each under the conditions that its contract names. -/
set_option linter.unusedVariables false
set_option linter.unusedSimpArgs false
set_option maxRecDepth 100000
set_option maxHeartbeats 40000000
set_option linter.unusedSimpArgs false
namespace Go.AM
open Go.Proofs
theorem el_k1 : ((List.range 30).all fun m => elAll 1 m) = true := by decide +kernel
theorem el_k2 : ((List.range 30).all fun m => elAll 2 m) = true := by decide +kernel
theorem el_k3 : ((List.range 30).all fun m => elAll 3 m) = true := by decide +kernel
theorem el_k4 : ((List.range 30).all fun m => elAll 4 m) = true := by decide +kernel
theorem el_k5 : ((List.range 30).all fun m => elAll 5 m) = true := by decide +kernel
end Go.AM
