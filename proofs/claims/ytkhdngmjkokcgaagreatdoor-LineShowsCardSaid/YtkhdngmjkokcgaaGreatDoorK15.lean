/- Part 15. -/
import Derived.Test.YtkhdngmjkokcgaaGreatDoorRows
import Derived.ProofKit
import Derived.LaidMore
import Derived.OpenShut
import Derived.Stop.Joined
import Derived.SevenTiedAt
import Derived.Lay
set_option linter.all false
set_option maxRecDepth 100000
section
namespace Go.Proofs.YtkhdngmjkokcgaaGreatDoor
open Go
def bCs:((Rows.lineShowsRow.unfollowed==Tryz.prog.unfollowed 3)=Bool.true):=by kernel_rfl
end Go.Proofs.YtkhdngmjkokcgaaGreatDoor
end
section
namespace Go.Proofs.YtkhdngmjkokcgaaGreatDoor
open Go
def bCt:((Rows.lineShowsRow.recurses==Tryz.prog.recurses 3)=Bool.true):=by kernel_rfl
end Go.Proofs.YtkhdngmjkokcgaaGreatDoor
end
section
namespace Go.Proofs.YtkhdngmjkokcgaaGreatDoor
open Go
def bCu:((Rows.lineShowsRow.lifted==Tryz.prog.liftsFinal)=Bool.true):=by kernel_rfl
end Go.Proofs.YtkhdngmjkokcgaaGreatDoor
end
