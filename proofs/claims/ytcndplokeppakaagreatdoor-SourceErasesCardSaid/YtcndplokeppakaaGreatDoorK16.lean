/- Part 16: lemmas for the last text. -/
import Derived.Test.YtcndplokeppakaaGreatDoorRows
import Derived.ProofKit
import Derived.LaidMore
import Derived.OpenShut
import Derived.Stop.Joined
import Derived.SevenTiedAt
import Derived.Lay
set_option linter.unusedVariables false
set_option linter.unusedSimpArgs false
set_option maxRecDepth 100000
open Bool renaming true -> QS
section
namespace Go.Proofs.YtcndplokeppakaaGreatDoor
open Go
theorem bCs:((Rows.sourceErasesRow.unfollowed==Tryz.prog.unfollowed 3)=QS):=by kernel_rfl
end Go.Proofs.YtcndplokeppakaaGreatDoor
end
section
namespace Go.Proofs.YtcndplokeppakaaGreatDoor
open Go
theorem bCt:((Rows.sourceErasesRow.recurses==Tryz.prog.recurses 3)=QS):=by kernel_rfl
end Go.Proofs.YtcndplokeppakaaGreatDoor
end
section
namespace Go.Proofs.YtcndplokeppakaaGreatDoor
open Go
theorem bCu:((Rows.sourceErasesRow.lifted==Tryz.prog.liftsFinal)=QS):=by kernel_rfl
end Go.Proofs.YtcndplokeppakaaGreatDoor
end
