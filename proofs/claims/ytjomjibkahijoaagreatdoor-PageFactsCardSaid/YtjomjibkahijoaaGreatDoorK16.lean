/- Part 16: lemmas for the last text. -/
import Derived.Test.YtjomjibkahijoaaGreatDoorRows
import Derived.ProofKit
import Derived.LaidMore
import Derived.OpenShut
import Derived.Stop.Joined
import Derived.SevenTiedAt
import Derived.Lay
set_option linter.unusedVariables false
set_option linter.unusedSimpArgs false
set_option maxRecDepth 100000
open Bool renaming true -> Qt
section
namespace Go.Proofs.YtjomjibkahijoaaGreatDoor
open Go
theorem bCv:((Rows.pageFactsRow.named==Tryz.prog.varsNamed 3)=Qt):=by kernel_rfl
end Go.Proofs.YtjomjibkahijoaaGreatDoor
end
section
namespace Go.Proofs.YtjomjibkahijoaaGreatDoor
open Go
theorem bCw:((Rows.pageFactsRow.plainKeys==Tryz.prog.plainKeys)=Qt):=by kernel_rfl
end Go.Proofs.YtjomjibkahijoaaGreatDoor
end
section
namespace Go.Proofs.YtjomjibkahijoaaGreatDoor
open Go
theorem bCx:(Tryz.prog.stopsHeard=Qt):=by kernel_rfl
end Go.Proofs.YtjomjibkahijoaaGreatDoor
end
