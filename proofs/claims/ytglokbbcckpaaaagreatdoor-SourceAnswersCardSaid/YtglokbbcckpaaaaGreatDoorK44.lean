/- Part 44 of the proof that stands in the last text of this folder (lemmas; no statement of its own). -/
import Derived.Test.YtglokbbcckpaaaaGreatDoorK41
set_option linter.unusedVariables false
set_option linter.unusedSimpArgs false
section
namespace Go.Proofs.YtglokbbcckpaaaaGreatDoor
open Go
set_option maxRecDepth 100000
theorem jf_g : ((Rows.sourceAnswersRow.named == Tryz.prog.varsNamed 3) = true) := by kernel_rfl
end Go.Proofs.YtglokbbcckpaaaaGreatDoor
end
section
namespace Go.Proofs.YtglokbbcckpaaaaGreatDoor
open Go
set_option maxRecDepth 100000
theorem jf_i : ((Rows.sourceAnswersRow.plainKeys == Tryz.prog.plainKeys) = true) := by kernel_rfl
end Go.Proofs.YtglokbbcckpaaaaGreatDoor
end
section
namespace Go.Proofs.YtglokbbcckpaaaaGreatDoor
open Go
set_option maxRecDepth 100000
theorem jf_j : (Tryz.prog.stopsHeard = true) := by kernel_rfl
end Go.Proofs.YtglokbbcckpaaaaGreatDoor
end
