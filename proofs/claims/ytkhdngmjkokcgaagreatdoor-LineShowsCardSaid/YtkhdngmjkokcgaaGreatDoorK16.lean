/- Part 16. -/
import Derived.Test.YtkhdngmjkokcgaaGreatDoorRows
import Derived.ProofKit
import Derived.LaidMore
import Derived.OpenShut
import Derived.Stop.Joined
import Derived.SevenTiedAt
import Derived.Lay
set_option linter.all false
set_option maxRecDepth 100000
section
namespace Go.Proofs.YtkhdngmjkokcgaaGreatDoor
open Go
def bCv:((Rows.lineShowsRow.named==Tryz.prog.varsNamed 3)=Bool.true):=by kernel_rfl
end Go.Proofs.YtkhdngmjkokcgaaGreatDoor
end
section
namespace Go.Proofs.YtkhdngmjkokcgaaGreatDoor
open Go
def bCw:((Rows.lineShowsRow.plainKeys==Tryz.prog.plainKeys)=Bool.true):=by kernel_rfl
end Go.Proofs.YtkhdngmjkokcgaaGreatDoor
end
section
namespace Go.Proofs.YtkhdngmjkokcgaaGreatDoor
open Go
def bCx:(Tryz.prog.stopsHeard=Bool.true):=by kernel_rfl
end Go.Proofs.YtkhdngmjkokcgaaGreatDoor
end
