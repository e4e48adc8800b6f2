/- Part 45: lemmas for the last text. -/
import Derived.Test.YtfpndhocfmfgdaaGreatDoorRows
import Derived.ProofKit
import Derived.LaidMore
import Derived.OpenShut
import Derived.Stop.Joined
import Derived.SevenTiedAt
import Derived.Lay
set_option linter.unusedVariables false
set_option linter.unusedSimpArgs false
section
namespace Go.Proofs.YtfpndhocfmfgdaaGreatDoor
open Go
set_option maxRecDepth 100000
theorem aYi:(Rows.sourceDifferentRow.wf (OpenSpec.ofChange Rows.sourceDifferentSpec)=true):=by kernel_rfl
end Go.Proofs.YtfpndhocfmfgdaaGreatDoor
end
section
namespace Go.Proofs.YtfpndhocfmfgdaaGreatDoor
open Go
set_option maxRecDepth 100000
theorem aYj:(laidOutB Tryz.prog=true):=by kernel_rfl
end Go.Proofs.YtfpndhocfmfgdaaGreatDoor
end
section
namespace Go.Proofs.YtfpndhocfmfgdaaGreatDoor
open Go
set_option maxRecDepth 100000
theorem aYk:(mapsRowed Tryz.prog=true):=by kernel_rfl
end Go.Proofs.YtfpndhocfmfgdaaGreatDoor
end
section
namespace Go.Proofs.YtfpndhocfmfgdaaGreatDoor
open Go
set_option maxRecDepth 100000
theorem aYl:((Rows.sourceDifferentRow.inPlace==Tryz.prog.inPlace 3)=true):=by kernel_rfl
end Go.Proofs.YtfpndhocfmfgdaaGreatDoor
end
