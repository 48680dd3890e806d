import Derived.Test.YtbcbgfkojmligaaAComp
/- Part of an abstract machine for Go code and of its soundness, for any program of the model; no condition. -/
set_option linter.unusedVariables false
set_option linter.unusedSimpArgs false
namespace Go.AM
@[reducible] def tI : Ty := .int .i64
@[reducible] def tEntry : Ty := .pair tI (.pair .str .unit)
@[reducible] def tHard : Ty := .pair tI (.pair tI (.pair tI (.pair tI (.pair .str (.pair (.list tEntry) .unit)))))
@[reducible] def tNode : Ty := .pair tI (.pair tI (.pair tI (.pair tI (.pair tI (.pair tI (.pair .str (.pair (.list tEntry) (.pair tI (.pair tI (.pair tI (.pair (.list .bool) (.pair (.list tI) (.pair (.list tI) (.pair tI .unit))))))))))))))
@[reducible] def tMsg : Ty := .pair tI (.pair tI (.pair tI (.pair tI (.pair tI (.pair tI (.pair .bool (.pair tI (.pair (.list tEntry) (.pair .str .unit)))))))))
def ttL : TyTab := [(3, tI), (4, .bool), (9, .str), (80, tI), (22, .list tI), (23, .list tEntry), (24, .list .bool), (26, tNode), (31, tMsg), (33, .list tMsg), (51, tEntry), (66, tHard), (72, .list (.list tI)), (86, .list tNode)]
end Go.AM
