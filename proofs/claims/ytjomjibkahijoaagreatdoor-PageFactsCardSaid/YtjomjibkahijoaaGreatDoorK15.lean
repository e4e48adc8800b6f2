/- Part 15: lemmas for the last text. -/
import Derived.Test.YtjomjibkahijoaaGreatDoorRows
import Derived.ProofKit
import Derived.LaidMore
import Derived.OpenShut
import Derived.Stop.Joined
import Derived.SevenTiedAt
import Derived.Lay
set_option linter.unusedVariables false
set_option linter.unusedSimpArgs false
set_option maxRecDepth 100000
open Bool renaming true -> Qt
section
namespace Go.Proofs.YtjomjibkahijoaaGreatDoor
open Go
theorem bCs:((Rows.pageFactsRow.unfollowed==Tryz.prog.unfollowed 3)=Qt):=by kernel_rfl
end Go.Proofs.YtjomjibkahijoaaGreatDoor
end
section
namespace Go.Proofs.YtjomjibkahijoaaGreatDoor
open Go
theorem bCt:((Rows.pageFactsRow.recurses==Tryz.prog.recurses 3)=Qt):=by kernel_rfl
end Go.Proofs.YtjomjibkahijoaaGreatDoor
end
section
namespace Go.Proofs.YtjomjibkahijoaaGreatDoor
open Go
theorem bCu:((Rows.pageFactsRow.lifted==Tryz.prog.liftsFinal)=Qt):=by kernel_rfl
end Go.Proofs.YtjomjibkahijoaaGreatDoor
end
