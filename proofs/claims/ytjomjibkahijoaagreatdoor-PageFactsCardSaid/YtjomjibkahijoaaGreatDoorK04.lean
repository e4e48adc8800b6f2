/- Part 4: lemmas for the last text. -/
import Derived.Test.YtjomjibkahijoaaGreatDoorK03
set_option linter.unusedVariables false
set_option linter.unusedSimpArgs false
set_option maxRecDepth 10000000
section
namespace Go.AM
open Go
theorem bG3:aE3 AK 10000 100 7 bGj [] bFA=true:=by kernel_rfl
theorem bG4:aE3 AK 10000 100 7 bGk [] bFA=true:=by kernel_rfl
end Go.AM
end
