/- Part 5: lemmas for the last text. -/
import Derived.Test.YtjomjibkahijoaaGreatDoorK03
set_option linter.unusedVariables false
set_option linter.unusedSimpArgs false
set_option maxRecDepth 10000000
section
namespace Go.AM
open Go
theorem bG5:aE3 AK 10000 100 7 bGl [] bFA=true:=by kernel_rfl
end Go.AM
end
