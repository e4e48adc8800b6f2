/- Part 12. -/
import Derived.Test.YtkhdngmjkokcgaaGreatDoorK08
set_option linter.all false
set_option maxRecDepth 10000000
section
namespace Go.AM
open Go
def bH1:bEg 126=true:=bIv
def bH2:bEg 133=true:=bIv
def bH3:bEg 140=true:=bIv
def bH4:bEg 147=true:=bIv
def bH5:bEg 154=true:=bIv
def bH6:bEg 161=true:=bIv
end Go.AM
end
