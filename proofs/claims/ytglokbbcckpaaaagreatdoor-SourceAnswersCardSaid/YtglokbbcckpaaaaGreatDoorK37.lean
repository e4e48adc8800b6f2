/- Part 37 of the proof that stands in the last text of this folder (lemmas; no statement of its own). -/
import Derived.Test.YtglokbbcckpaaaaGreatDoorK34
import Derived.ProofKit
set_option linter.unusedVariables false
set_option linter.unusedSimpArgs false
section
set_option maxRecDepth 100000
namespace Go.AM
open Go
theorem z_b : (chk l4 nwB) = true := by kernel_rfl
end Go.AM
end
section
set_option maxRecDepth 100000
namespace Go.AM
open Go
theorem z_d1 : (chk l6 [nwD[0]]) = true := by kernel_rfl
end Go.AM
end
section
set_option maxRecDepth 100000
namespace Go.AM
open Go
theorem z_d2 : (chk l6 [nwD[1]]) = true := by kernel_rfl
end Go.AM
end
section
set_option maxRecDepth 100000
namespace Go.AM
open Go
theorem z_v0 : (chk1 l7 20 [.agg (aiAZ kBs), .agg (apyZ (.num .i64 0 0))] kVal) = true := by kernel_rfl
end Go.AM
end
section
set_option maxRecDepth 100000
namespace Go.AM
open Go
theorem z_v1 : (chk1 l7 20 [.agg (aiAZ [kB]), .agg (apyZ (.num .i64 1 1))] kVal) = true := by kernel_rfl
end Go.AM
end
