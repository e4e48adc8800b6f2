/- Part 9. -/
import Derived.Test.YtkhdngmjkokcgaaGreatDoorK08
set_option linter.all false
set_option maxRecDepth 10000000
section
namespace Go.AM
open Go
def bI3:bEg 0=true:=bIv
def bI4:bEg 7=true:=bIv
def bHB:bEg 14=true:=bIv
def bHC:bEg 21=true:=bIv
def bHD:bEg 28=true:=bIv
def bHE:bEg 35=true:=bIv
end Go.AM
end
