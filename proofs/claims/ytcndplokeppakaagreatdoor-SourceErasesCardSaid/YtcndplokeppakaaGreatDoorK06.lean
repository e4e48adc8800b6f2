/- Part 6: lemmas for the last text. -/
import Derived.Test.YtcndplokeppakaaGreatDoorK03
set_option linter.unusedVariables false
set_option linter.unusedSimpArgs false
section
namespace Go.AM
open Go
theorem bAW:aE3 AK 10000 100 39 aKC [] aJi=true:=by kernel_rfl
theorem aUA:aE3 AK 10000 100 40 aIr [] aRT=true:=by kernel_rfl
end Go.AM
end
