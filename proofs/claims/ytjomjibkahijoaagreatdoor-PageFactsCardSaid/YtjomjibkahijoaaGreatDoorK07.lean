/- Part 7: lemmas for the last text. -/
import Derived.Test.YtjomjibkahijoaaGreatDoorK06
set_option linter.unusedVariables false
set_option linter.unusedSimpArgs false
set_option maxRecDepth 10000000
section
namespace Go.AM
open Go
theorem bGP:aE3 AV1 10000 100 21 bGm [] kHi=true:=by kernel_rfl
end Go.AM
end
