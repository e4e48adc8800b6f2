/- Part 5. -/
import Derived.Test.YtkhdngmjkokcgaaGreatDoorK03
set_option linter.all false
set_option maxRecDepth 10000000
section
namespace Go.AM
open Go
def bRj:aE3 AK 100000 100 4 [bSF,bT2] [.gone 0] (kIs bSG)=true:=bIv
end Go.AM
end
