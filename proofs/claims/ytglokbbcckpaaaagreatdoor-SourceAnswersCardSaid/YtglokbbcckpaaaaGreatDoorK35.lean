/- Part 35 of the proof that stands in the last text of this folder (lemmas; no statement of its own). -/
import Derived.Test.YtglokbbcckpaaaaGreatDoorK34
import Derived.ProofKit
set_option linter.unusedVariables false
set_option linter.unusedSimpArgs false
section
set_option maxRecDepth 100000
namespace Go.AM
open Go
theorem z_u0 : (chk [] (lvU 0)) = true := by kernel_rfl
end Go.AM
end
section
set_option maxRecDepth 100000
namespace Go.AM
open Go
theorem z_u1 : (chk l0 (lvU 1)) = true := by kernel_rfl
end Go.AM
end
section
set_option maxRecDepth 100000
namespace Go.AM
open Go
theorem z_u2 : (chk l1 (lvU 2)) = true := by kernel_rfl
end Go.AM
end
section
set_option maxRecDepth 100000
namespace Go.AM
open Go
theorem z_c1 : (chk l5 [nwC[0]]) = true := by kernel_rfl
end Go.AM
end
