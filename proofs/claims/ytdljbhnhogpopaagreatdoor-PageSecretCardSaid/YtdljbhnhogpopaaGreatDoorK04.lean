/- Part 4: lemmas for the last text. -/
import Derived.Test.YtdljbhnhogpopaaGreatDoorK03
set_option linter.defProp false
set_option linter.unusedVariables false
set_option linter.unusedSimpArgs false
set_option maxRecDepth 10000000
section
namespace Go.AM
open Go
def bGw:aE3 AK 10000 100 41 bH7 [] bFR=true:=by kernel_rfl
def bGx:aE3 AK 10000 100 41 bH8 [] bFR=true:=by kernel_rfl
end Go.AM
end
