/- Part 17: lemmas for the last text. -/
import Derived.Test.YtcndplokeppakaaGreatDoorRows
import Derived.ProofKit
import Derived.LaidMore
import Derived.OpenShut
import Derived.Stop.Joined
import Derived.SevenTiedAt
import Derived.Lay
set_option linter.unusedVariables false
set_option linter.unusedSimpArgs false
set_option maxRecDepth 100000
open Bool renaming true -> QS
section
namespace Go.Proofs.YtcndplokeppakaaGreatDoor
open Go
theorem bCv:((Rows.sourceErasesRow.named==Tryz.prog.varsNamed 3)=QS):=by kernel_rfl
end Go.Proofs.YtcndplokeppakaaGreatDoor
end
section
namespace Go.Proofs.YtcndplokeppakaaGreatDoor
open Go
theorem bCw:((Rows.sourceErasesRow.plainKeys==Tryz.prog.plainKeys)=QS):=by kernel_rfl
end Go.Proofs.YtcndplokeppakaaGreatDoor
end
section
namespace Go.Proofs.YtcndplokeppakaaGreatDoor
open Go
theorem bCx:(Tryz.prog.stopsHeard=QS):=by kernel_rfl
end Go.Proofs.YtcndplokeppakaaGreatDoor
end
