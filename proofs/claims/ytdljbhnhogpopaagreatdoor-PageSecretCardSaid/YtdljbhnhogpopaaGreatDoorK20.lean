/- Part 20: lemmas for the last text. -/
import Derived.Test.YtdljbhnhogpopaaGreatDoorRows
import Derived.ProofKit
import Derived.LaidMore
import Derived.OpenShut
import Derived.Stop.Joined
import Derived.SevenTiedAt
import Derived.Lay
set_option linter.defProp false
set_option linter.unusedVariables false
set_option linter.unusedSimpArgs false
set_option maxRecDepth 100000
open Bool renaming true -> Pa
section
namespace Go.Proofs.YtdljbhnhogpopaaGreatDoor
open Go
def bCv:((Rows.pageSecretRow.named==Tryz.prog.varsNamed 3)=Pa):=by kernel_rfl
end Go.Proofs.YtdljbhnhogpopaaGreatDoor
end
section
namespace Go.Proofs.YtdljbhnhogpopaaGreatDoor
open Go
def bCw:((Rows.pageSecretRow.plainKeys==Tryz.prog.plainKeys)=Pa):=by kernel_rfl
end Go.Proofs.YtdljbhnhogpopaaGreatDoor
end
section
namespace Go.Proofs.YtdljbhnhogpopaaGreatDoor
open Go
def bCx:(Tryz.prog.stopsHeard=Pa):=by kernel_rfl
end Go.Proofs.YtdljbhnhogpopaaGreatDoor
end
