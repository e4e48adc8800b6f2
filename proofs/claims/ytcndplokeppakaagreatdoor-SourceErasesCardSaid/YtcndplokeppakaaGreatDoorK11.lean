/- Part 11: lemmas for the last text. -/
import Derived.Test.YtcndplokeppakaaGreatDoorK10
set_option linter.unusedVariables false
set_option linter.unusedSimpArgs false
set_option maxRecDepth 10000000
section
namespace Go.AM
open Go
theorem bI3:bEg 0=true:=by kernel_rfl
theorem bI4:bEg 7=true:=by kernel_rfl
theorem bHB:bEg 14=true:=by kernel_rfl
theorem bHC:bEg 21=true:=by kernel_rfl
theorem bHD:bEg 28=true:=by kernel_rfl
theorem bHE:bEg 35=true:=by kernel_rfl
theorem bHF:bEg 42=true:=by kernel_rfl
theorem bHG:bEg 49=true:=by kernel_rfl
theorem bHH:bEg 56=true:=by kernel_rfl
theorem bHI:bEg 63=true:=by kernel_rfl
theorem bHJ:bEg 70=true:=by kernel_rfl
theorem bHK:bEg 77=true:=by kernel_rfl
end Go.AM
end
