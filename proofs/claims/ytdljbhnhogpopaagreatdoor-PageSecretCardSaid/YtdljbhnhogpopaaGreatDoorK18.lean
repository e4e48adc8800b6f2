/- Part 18: lemmas for the last text. -/
import Derived.Test.YtdljbhnhogpopaaGreatDoorRows
import Derived.ProofKit
import Derived.LaidMore
import Derived.OpenShut
import Derived.Stop.Joined
import Derived.SevenTiedAt
import Derived.Lay
set_option linter.defProp false
set_option linter.unusedVariables false
set_option linter.unusedSimpArgs false
set_option maxRecDepth 100000
open Bool renaming true -> Pa
section
namespace Go.Proofs.YtdljbhnhogpopaaGreatDoor
open Go
def bCo:(Rows.pageSecretRow.wf (OpenSpec.ofChange Rows.pageSecretSpec)=Pa):=by kernel_rfl
end Go.Proofs.YtdljbhnhogpopaaGreatDoor
end
section
namespace Go.Proofs.YtdljbhnhogpopaaGreatDoor
open Go
def bCp:(laidOutB Tryz.prog=Pa):=by kernel_rfl
end Go.Proofs.YtdljbhnhogpopaaGreatDoor
end
section
namespace Go.Proofs.YtdljbhnhogpopaaGreatDoor
open Go
def bCq:(mapsRowed Tryz.prog=Pa):=by kernel_rfl
end Go.Proofs.YtdljbhnhogpopaaGreatDoor
end
section
namespace Go.Proofs.YtdljbhnhogpopaaGreatDoor
open Go
def bCr:((Rows.pageSecretRow.inPlace==Tryz.prog.inPlace 3)=Pa):=by kernel_rfl
end Go.Proofs.YtdljbhnhogpopaaGreatDoor
end
