/- Part 14: lemmas for the last text. -/
import Derived.Test.YtdljbhnhogpopaaGreatDoorK13
set_option linter.defProp false
set_option linter.unusedVariables false
set_option linter.unusedSimpArgs false
set_option maxRecDepth 10000000
section
namespace Go.AM
open Go
def bI3:bEg 0=true:=by kernel_rfl
def bI4:bEg 7=true:=by kernel_rfl
def bHB:bEg 14=true:=by kernel_rfl
def bHC:bEg 21=true:=by kernel_rfl
def bHD:bEg 28=true:=by kernel_rfl
def bHE:bEg 35=true:=by kernel_rfl
def bHF:bEg 42=true:=by kernel_rfl
def bHG:bEg 49=true:=by kernel_rfl
def bHH:bEg 56=true:=by kernel_rfl
def bHI:bEg 63=true:=by kernel_rfl
def bHJ:bEg 70=true:=by kernel_rfl
def bHK:bEg 77=true:=by kernel_rfl
end Go.AM
end
