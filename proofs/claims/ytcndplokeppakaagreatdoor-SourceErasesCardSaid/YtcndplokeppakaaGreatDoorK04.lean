/- Part 4: lemmas for the last text. -/
import Derived.Test.YtcndplokeppakaaGreatDoorK03
set_option linter.unusedVariables false
set_option linter.unusedSimpArgs false
section
namespace Go.AM
open Go
theorem bAS:aE3 AK 10000 100 39 aKy [] aJi=true:=by kernel_rfl
theorem bAT:aE3 AK 10000 100 39 aKz [] aJi=true:=by kernel_rfl
end Go.AM
end
