/- Part 14. -/
import Derived.Test.YtkhdngmjkokcgaaGreatDoorRows
import Derived.ProofKit
import Derived.LaidMore
import Derived.OpenShut
import Derived.Stop.Joined
import Derived.SevenTiedAt
import Derived.Lay
set_option linter.all false
set_option maxRecDepth 100000
open Bool renaming true->Pa
section
namespace Go.Proofs.YtkhdngmjkokcgaaGreatDoor
open Go
def bCo:(Rows.lineShowsRow.wf (OpenSpec.ofChange Rows.lineShowsSpec)=Pa):=by kernel_rfl
end Go.Proofs.YtkhdngmjkokcgaaGreatDoor
end
section
namespace Go.Proofs.YtkhdngmjkokcgaaGreatDoor
open Go
def bCp:(laidOutB Tryz.prog=Pa):=by kernel_rfl
end Go.Proofs.YtkhdngmjkokcgaaGreatDoor
end
section
namespace Go.Proofs.YtkhdngmjkokcgaaGreatDoor
open Go
def bCq:(mapsRowed Tryz.prog=Pa):=by kernel_rfl
end Go.Proofs.YtkhdngmjkokcgaaGreatDoor
end
section
namespace Go.Proofs.YtkhdngmjkokcgaaGreatDoor
open Go
def bCr:((Rows.lineShowsRow.inPlace==Tryz.prog.inPlace 3)=Pa):=by kernel_rfl
end Go.Proofs.YtkhdngmjkokcgaaGreatDoor
end
