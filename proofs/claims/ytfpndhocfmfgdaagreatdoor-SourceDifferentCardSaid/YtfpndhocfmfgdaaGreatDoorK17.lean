/- Part 17: lemmas for the last text. -/
import Derived.Test.YtfpndhocfmfgdaaGreatDoorK16
set_option linter.unusedVariables false
set_option linter.unusedSimpArgs false
section
namespace Go.AM
open Go
theorem aWj:aC5 AK 10000 100 27 aHL [] aGv=true:=by kernel_rfl
theorem aWk:aC5 AK 10000 100 27 aHM [] aGv=true:=by kernel_rfl
end Go.AM
end
