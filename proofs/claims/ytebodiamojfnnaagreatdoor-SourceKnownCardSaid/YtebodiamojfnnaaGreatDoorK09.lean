/- Part 9: lemmas for the last text. -/
import Derived.Test.YtebodiamojfnnaaGreatDoorK05
set_option linter.unusedVariables false
set_option linter.unusedSimpArgs false
section
namespace Go.AM
open Go
theorem bAW:aE3 AK 10000 100 33 aKC [] aJi=true:=by kernel_rfl
end Go.AM
end
