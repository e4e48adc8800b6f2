/- Part 9: lemmas for the last text. -/
import Derived.Test.YtdljbhnhogpopaaGreatDoorK08
set_option linter.defProp false
set_option linter.unusedVariables false
set_option linter.unusedSimpArgs false
set_option maxRecDepth 10000000
section
namespace Go.AM
open Go
def bHn:aE3 AL 10000 100 9 [] [] aJi=true:=by kernel_rfl
end Go.AM
end
