/- Part 18: lemmas for the last text. -/
import Derived.Test.YtfpndhocfmfgdaaGreatDoorK16
set_option linter.unusedVariables false
set_option linter.unusedSimpArgs false
section
namespace Go.AM
open Go
theorem aWl:aC5 AK 10000 100 27 aHN [] aGv=true:=by kernel_rfl
theorem aQB:aC5 AK 10000 100 28 aFM [] aOj=true:=by kernel_rfl
end Go.AM
end
