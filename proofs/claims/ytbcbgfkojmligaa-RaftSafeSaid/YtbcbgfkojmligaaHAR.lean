import Derived.Test.YtbcbgfkojmligaaHAI
import Derived.Test.YtbcbgfkojmligaaAN
/- What functions of the program answer, each under the conditions that its contract names. -/
set_option linter.unusedVariables false
set_option linter.unusedSimpArgs false
set_option maxRecDepth 100000
set_option maxHeartbeats 40000000
set_option linter.unusedSimpArgs false
namespace Go.AM
open Go.Proofs
attribute [local congr] vc_congr evOps_congr evTab_congr bind_congr condK_congr tabK_congr
/-- A node whose log may be appended to, whose Match is its own. -/
@[reducible] def tNodeM : Ty := .pair tI (.pair tI (.pair tI (.pair tI (.pair tI (.pair tI (.pair .str (.pair (.flist tEntry) (.pair tI (.pair tI (.pair tI (.pair (.list .bool) (.pair (.list tI) (.pair (.olist tI) (.pair tI .unit))))))))))))))
end Go.AM
