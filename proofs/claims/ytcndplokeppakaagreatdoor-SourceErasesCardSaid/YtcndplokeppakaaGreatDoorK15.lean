/- Part 15: lemmas for the last text. -/
import Derived.Test.YtcndplokeppakaaGreatDoorRows
import Derived.ProofKit
import Derived.LaidMore
import Derived.OpenShut
import Derived.Stop.Joined
import Derived.SevenTiedAt
import Derived.Lay
set_option linter.unusedVariables false
set_option linter.unusedSimpArgs false
set_option maxRecDepth 100000
open Bool renaming true -> QS
section
namespace Go.Proofs.YtcndplokeppakaaGreatDoor
open Go
theorem bCo:(Rows.sourceErasesRow.wf (OpenSpec.ofChange Rows.sourceErasesSpec)=QS):=by kernel_rfl
end Go.Proofs.YtcndplokeppakaaGreatDoor
end
section
namespace Go.Proofs.YtcndplokeppakaaGreatDoor
open Go
theorem bCp:(laidOutB Tryz.prog=QS):=by kernel_rfl
end Go.Proofs.YtcndplokeppakaaGreatDoor
end
section
namespace Go.Proofs.YtcndplokeppakaaGreatDoor
open Go
theorem bCq:(mapsRowed Tryz.prog=QS):=by kernel_rfl
end Go.Proofs.YtcndplokeppakaaGreatDoor
end
section
namespace Go.Proofs.YtcndplokeppakaaGreatDoor
open Go
theorem bCr:((Rows.sourceErasesRow.inPlace==Tryz.prog.inPlace 3)=QS):=by kernel_rfl
end Go.Proofs.YtcndplokeppakaaGreatDoor
end
