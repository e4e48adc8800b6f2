/- Part 36 of the proof that stands in the last text of this folder (lemmas; no statement of its own). -/
import Derived.Test.YtglokbbcckpaaaaGreatDoorK34
import Derived.ProofKit
set_option linter.unusedVariables false
set_option linter.unusedSimpArgs false
section
set_option maxRecDepth 100000
namespace Go.AM
open Go
theorem z_u3 : (chk l2 (lvU 3)) = true := by kernel_rfl
end Go.AM
end
section
set_option maxRecDepth 100000
namespace Go.AM
open Go
theorem z_t : (chk l3 nwT) = true := by kernel_rfl
end Go.AM
end
section
set_option maxRecDepth 100000
namespace Go.AM
open Go
theorem z_c2 : (chk l5 [nwC[1]]) = true := by kernel_rfl
end Go.AM
end
section
set_option maxRecDepth 100000
namespace Go.AM
open Go
theorem z_c3 : (chk l5 [nwC[2]]) = true := by kernel_rfl
end Go.AM
end
