/- Part 46: lemmas for the last text. -/
import Derived.Test.YtfpndhocfmfgdaaGreatDoorRows
import Derived.ProofKit
import Derived.LaidMore
import Derived.OpenShut
import Derived.Stop.Joined
import Derived.SevenTiedAt
import Derived.Lay
set_option linter.unusedVariables false
set_option linter.unusedSimpArgs false
section
namespace Go.Proofs.YtfpndhocfmfgdaaGreatDoor
open Go
set_option maxRecDepth 100000
theorem aYm:((Rows.sourceDifferentRow.unfollowed==Tryz.prog.unfollowed 3)=true):=by kernel_rfl
end Go.Proofs.YtfpndhocfmfgdaaGreatDoor
end
section
namespace Go.Proofs.YtfpndhocfmfgdaaGreatDoor
open Go
set_option maxRecDepth 100000
theorem aYn:((Rows.sourceDifferentRow.recurses==Tryz.prog.recurses 3)=true):=by kernel_rfl
end Go.Proofs.YtfpndhocfmfgdaaGreatDoor
end
section
namespace Go.Proofs.YtfpndhocfmfgdaaGreatDoor
open Go
set_option maxRecDepth 100000
theorem aYo:((Rows.sourceDifferentRow.lifted==Tryz.prog.liftsFinal)=true):=by kernel_rfl
end Go.Proofs.YtfpndhocfmfgdaaGreatDoor
end
