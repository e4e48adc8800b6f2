/- Part 15: lemmas for the last text. -/
import Derived.Test.YtdljbhnhogpopaaGreatDoorK13
set_option linter.defProp false
set_option linter.unusedVariables false
set_option linter.unusedSimpArgs false
set_option maxRecDepth 10000000
section
namespace Go.AM
open Go
def bHL:bEg 84=true:=by kernel_rfl
def bHM:bEg 91=true:=by kernel_rfl
def bHN:bEg 98=true:=by kernel_rfl
def bGY:bEg 105=true:=by kernel_rfl
def bGZ:bEg 112=true:=by kernel_rfl
def bH0:bEg 119=true:=by kernel_rfl
end Go.AM
end
