/- Part 13: lemmas for the last text. -/
import Derived.Test.YtcndplokeppakaaGreatDoorK10
set_option linter.unusedVariables false
set_option linter.unusedSimpArgs false
set_option maxRecDepth 10000000
section
namespace Go.AM
open Go
theorem bH1:bEg 126=true:=by kernel_rfl
theorem bH2:bEg 133=true:=by kernel_rfl
theorem bH3:bEg 140=true:=by kernel_rfl
theorem bH4:bEg 147=true:=by kernel_rfl
theorem bH5:bEg 154=true:=by kernel_rfl
theorem bH6:bEg 161=true:=by kernel_rfl
end Go.AM
end
