/- Part 5: lemmas for the last text. -/
import Derived.Test.YtdljbhnhogpopaaGreatDoorK03
set_option linter.defProp false
set_option linter.unusedVariables false
set_option linter.unusedSimpArgs false
set_option maxRecDepth 10000000
section
namespace Go.AM
open Go
def bGy:aE3 AK 10000 100 41 bH9 [] bFR=true:=by kernel_rfl
end Go.AM
end
