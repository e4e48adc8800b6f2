/- Part 5: lemmas for the last text. -/
import Derived.Test.YtcndplokeppakaaGreatDoorK03
set_option linter.unusedVariables false
set_option linter.unusedSimpArgs false
section
namespace Go.AM
open Go
theorem bAU:aE3 AK 10000 100 39 aKA [] aJi=true:=by kernel_rfl
theorem bAV:aE3 AK 10000 100 39 aKB [] aJi=true:=by kernel_rfl
end Go.AM
end
