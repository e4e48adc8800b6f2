/- Part 26 of the proof that stands in the last text of this folder (lemmas; no statement of its own). -/
import Derived.Test.YtglokbbcckpaaaaGreatDoorK23
set_option linter.unusedVariables false
set_option linter.unusedSimpArgs false
section
namespace Go.AM
open Go
theorem aECZ : alUZ AK 10000 100 31 aqLZ [] apmZ = true := by kernel_rfl
end Go.AM
end
section
namespace Go.AM
open Go
theorem aztZ : alUZ AK 10000 100 9 aoAZ [] axhZ = true := by kernel_rfl
end Go.AM
end
