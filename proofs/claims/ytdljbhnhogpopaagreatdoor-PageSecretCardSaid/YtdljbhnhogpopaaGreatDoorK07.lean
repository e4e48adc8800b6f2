/- Part 7: lemmas for the last text. -/
import Derived.Test.YtdljbhnhogpopaaGreatDoorK06
set_option linter.defProp false
set_option linter.unusedVariables false
set_option linter.unusedSimpArgs false
set_option maxRecDepth 10000000
section
namespace Go.AM
open Go
def bIn:aE3 AV1 10000 100 58 bHa [] kHi=true:=by kernel_rfl
end Go.AM
end
