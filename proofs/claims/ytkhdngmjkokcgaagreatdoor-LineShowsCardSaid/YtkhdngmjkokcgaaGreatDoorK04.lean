/- Part 4. -/
import Derived.Test.YtkhdngmjkokcgaaGreatDoorK03
set_option linter.all false
set_option maxRecDepth 10000000
section
namespace Go.AM
open Go
def bRi:aE3 AK 100000 100 6 [vi0 0] [.gone 0] (kIs bT2)=true:=bIv
end Go.AM
end
