/- Part 10. -/
import Derived.Test.YtkhdngmjkokcgaaGreatDoorK08
set_option linter.all false
set_option maxRecDepth 10000000
section
namespace Go.AM
open Go
def bHF:bEg 42=true:=bIv
def bHG:bEg 49=true:=bIv
def bHH:bEg 56=true:=bIv
def bHI:bEg 63=true:=bIv
def bHJ:bEg 70=true:=bIv
def bHK:bEg 77=true:=bIv
end Go.AM
end
