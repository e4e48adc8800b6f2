/- Part 38 of the proof that stands in the last text of this folder (lemmas; no statement of its own). -/
import Derived.Test.YtglokbbcckpaaaaGreatDoorK34
import Derived.ProofKit
set_option linter.unusedVariables false
set_option linter.unusedSimpArgs false
section
set_option maxRecDepth 100000
namespace Go.AM
open Go
theorem z_v2 : (chk1 l7 20 [.agg (aiAZ [kB]), .agg (apyZ (.num .i64 2 4))] kVal) = true := by kernel_rfl
end Go.AM
end
section
set_option maxRecDepth 100000
namespace Go.AM
open Go
theorem z_v5 : (chk1 l7 20 [.agg (aiAZ [kB]), .agg (apyZ (.num .i64 5 5))] kVal) = true := by kernel_rfl
end Go.AM
end
section
set_option maxRecDepth 100000
namespace Go.AM
open Go
theorem z_v6 : (chk1 l7 20 [.agg (aiAZ [kB]), .agg (apyZ (.num .i64 6 6))] kVal) = true := by kernel_rfl
end Go.AM
end
section
set_option maxRecDepth 100000
namespace Go.AM
open Go
theorem z_vm : (chk1 l7 20 [.agg (aiAZ [kB]), .agg (apyZ (.num .i64 (-9223372036854775808) (-1)))] kVal) = true := by kernel_rfl
end Go.AM
end
section
set_option maxRecDepth 100000
namespace Go.AM
open Go
theorem z_vp : (chk1 l7 20 [.agg (aiAZ [kB]), .agg (apyZ (.num .i64 7 9223372036854775807))] kVal) = true := by kernel_rfl
end Go.AM
end
section
set_option maxRecDepth 100000
namespace Go.AM
open Go
theorem z_f : (chk1 ((20,⟨[[.agg (aiAZ kBs), .agg arbZ]], kVal⟩) :: l7) 6 [.agg [kTxt, .sl [aiAZ kBs] 1 1]] (.tup [.sl [[.sl [[.txt 3000000]] 0 16]] 0 1, .num .i64 0 13])) = true := by kernel_rfl
end Go.AM
end
