/- Part 12: lemmas for the last text. -/
import Derived.Test.YtcndplokeppakaaGreatDoorK10
set_option linter.unusedVariables false
set_option linter.unusedSimpArgs false
set_option maxRecDepth 10000000
section
namespace Go.AM
open Go
theorem bHL:bEg 84=true:=by kernel_rfl
theorem bHM:bEg 91=true:=by kernel_rfl
theorem bHN:bEg 98=true:=by kernel_rfl
theorem bGY:bEg 105=true:=by kernel_rfl
theorem bGZ:bEg 112=true:=by kernel_rfl
theorem bH0:bEg 119=true:=by kernel_rfl
end Go.AM
end
