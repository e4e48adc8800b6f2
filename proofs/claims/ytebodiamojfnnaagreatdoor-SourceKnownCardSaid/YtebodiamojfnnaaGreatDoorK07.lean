/- Part 7: lemmas for the last text. -/
import Derived.Test.YtebodiamojfnnaaGreatDoorK05
set_option linter.unusedVariables false
set_option linter.unusedSimpArgs false
section
namespace Go.AM
open Go
theorem bAU:aE3 AK 10000 100 33 aKA [] aJi=true:=by kernel_rfl
theorem aUA:aE3 AK 10000 100 34 aIr [] aRT=true:=by kernel_rfl
end Go.AM
end
