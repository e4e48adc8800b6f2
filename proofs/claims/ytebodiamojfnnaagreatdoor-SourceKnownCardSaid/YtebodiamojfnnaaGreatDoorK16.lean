/- Part 16: lemmas for the last text. -/
import Derived.Test.YtebodiamojfnnaaGreatDoorRows
import Derived.ProofKit
import Derived.LaidMore
import Derived.OpenShut
import Derived.Stop.Joined
import Derived.SevenTiedAt
import Derived.Lay
set_option linter.unusedVariables false
set_option linter.unusedSimpArgs false
set_option maxRecDepth 100000
open Bool renaming true -> Qt
section
namespace Go.Proofs.YtebodiamojfnnaaGreatDoor
open Go
theorem bCs:((Rows.sourceKnownRow.unfollowed==Tryz.prog.unfollowed 3)=Qt):=by kernel_rfl
end Go.Proofs.YtebodiamojfnnaaGreatDoor
end
section
namespace Go.Proofs.YtebodiamojfnnaaGreatDoor
open Go
theorem bCt:((Rows.sourceKnownRow.recurses==Tryz.prog.recurses 3)=Qt):=by kernel_rfl
end Go.Proofs.YtebodiamojfnnaaGreatDoor
end
section
namespace Go.Proofs.YtebodiamojfnnaaGreatDoor
open Go
theorem bCu:((Rows.sourceKnownRow.lifted==Tryz.prog.liftsFinal)=Qt):=by kernel_rfl
end Go.Proofs.YtebodiamojfnnaaGreatDoor
end
