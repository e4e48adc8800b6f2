/- Part 11. -/
import Derived.Test.YtkhdngmjkokcgaaGreatDoorK08
set_option linter.all false
set_option maxRecDepth 10000000
section
namespace Go.AM
open Go
def bHL:bEg 84=true:=bIv
def bHM:bEg 91=true:=bIv
def bHN:bEg 98=true:=bIv
def bGY:bEg 105=true:=bIv
def bGZ:bEg 112=true:=bIv
def bH0:bEg 119=true:=bIv
end Go.AM
end
