/- Part 47: lemmas for the last text. -/
import Derived.Test.YtfpndhocfmfgdaaGreatDoorRows
import Derived.ProofKit
import Derived.LaidMore
import Derived.OpenShut
import Derived.Stop.Joined
import Derived.SevenTiedAt
import Derived.Lay
set_option linter.unusedVariables false
set_option linter.unusedSimpArgs false
section
namespace Go.Proofs.YtfpndhocfmfgdaaGreatDoor
open Go
set_option maxRecDepth 100000
theorem aYp:((Rows.sourceDifferentRow.named==Tryz.prog.varsNamed 3)=true):=by kernel_rfl
end Go.Proofs.YtfpndhocfmfgdaaGreatDoor
end
section
namespace Go.Proofs.YtfpndhocfmfgdaaGreatDoor
open Go
set_option maxRecDepth 100000
theorem aYq:((Rows.sourceDifferentRow.plainKeys==Tryz.prog.plainKeys)=true):=by kernel_rfl
end Go.Proofs.YtfpndhocfmfgdaaGreatDoor
end
section
namespace Go.Proofs.YtfpndhocfmfgdaaGreatDoor
open Go
set_option maxRecDepth 100000
theorem aYr:(Tryz.prog.stopsHeard=true):=by kernel_rfl
end Go.Proofs.YtfpndhocfmfgdaaGreatDoor
end
