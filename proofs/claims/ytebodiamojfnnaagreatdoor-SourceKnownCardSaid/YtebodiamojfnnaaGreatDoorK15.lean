/- Part 15: lemmas for the last text. -/
import Derived.Test.YtebodiamojfnnaaGreatDoorRows
import Derived.ProofKit
import Derived.LaidMore
import Derived.OpenShut
import Derived.Stop.Joined
import Derived.SevenTiedAt
import Derived.Lay
set_option linter.unusedVariables false
set_option linter.unusedSimpArgs false
set_option maxRecDepth 100000
open Bool renaming true -> Qt
section
namespace Go.Proofs.YtebodiamojfnnaaGreatDoor
open Go
theorem bCo:(Rows.sourceKnownRow.wf (OpenSpec.ofChange Rows.sourceKnownSpec)=Qt):=by kernel_rfl
end Go.Proofs.YtebodiamojfnnaaGreatDoor
end
section
namespace Go.Proofs.YtebodiamojfnnaaGreatDoor
open Go
theorem bCp:(laidOutB Tryz.prog=Qt):=by kernel_rfl
end Go.Proofs.YtebodiamojfnnaaGreatDoor
end
section
namespace Go.Proofs.YtebodiamojfnnaaGreatDoor
open Go
theorem bCq:(mapsRowed Tryz.prog=Qt):=by kernel_rfl
end Go.Proofs.YtebodiamojfnnaaGreatDoor
end
section
namespace Go.Proofs.YtebodiamojfnnaaGreatDoor
open Go
theorem bCr:((Rows.sourceKnownRow.inPlace==Tryz.prog.inPlace 3)=Qt):=by kernel_rfl
end Go.Proofs.YtebodiamojfnnaaGreatDoor
end
