/- Part 14: lemmas for the last text. -/
import Derived.Test.YtjomjibkahijoaaGreatDoorRows
import Derived.ProofKit
import Derived.LaidMore
import Derived.OpenShut
import Derived.Stop.Joined
import Derived.SevenTiedAt
import Derived.Lay
set_option linter.unusedVariables false
set_option linter.unusedSimpArgs false
set_option maxRecDepth 100000
open Bool renaming true -> Qt
section
namespace Go.Proofs.YtjomjibkahijoaaGreatDoor
open Go
theorem bCo:(Rows.pageFactsRow.wf (OpenSpec.ofChange Rows.pageFactsSpec)=Qt):=by kernel_rfl
end Go.Proofs.YtjomjibkahijoaaGreatDoor
end
section
namespace Go.Proofs.YtjomjibkahijoaaGreatDoor
open Go
theorem bCp:(laidOutB Tryz.prog=Qt):=by kernel_rfl
end Go.Proofs.YtjomjibkahijoaaGreatDoor
end
section
namespace Go.Proofs.YtjomjibkahijoaaGreatDoor
open Go
theorem bCq:(mapsRowed Tryz.prog=Qt):=by kernel_rfl
end Go.Proofs.YtjomjibkahijoaaGreatDoor
end
section
namespace Go.Proofs.YtjomjibkahijoaaGreatDoor
open Go
theorem bCr:((Rows.pageFactsRow.inPlace==Tryz.prog.inPlace 3)=Qt):=by kernel_rfl
end Go.Proofs.YtjomjibkahijoaaGreatDoor
end
