/- Part 43 of the proof that stands in the last text of this folder (lemmas; no statement of its own). -/
import Derived.Test.YtglokbbcckpaaaaGreatDoorK41
set_option linter.unusedVariables false
set_option linter.unusedSimpArgs false
section
namespace Go.Proofs.YtglokbbcckpaaaaGreatDoor
open Go
set_option maxRecDepth 100000
theorem jf_e : ((Rows.sourceAnswersRow.unfollowed == Tryz.prog.unfollowed 3) = true) := by kernel_rfl
end Go.Proofs.YtglokbbcckpaaaaGreatDoor
end
section
namespace Go.Proofs.YtglokbbcckpaaaaGreatDoor
open Go
set_option maxRecDepth 100000
theorem jf_f : ((Rows.sourceAnswersRow.recurses == Tryz.prog.recurses 3) = true) := by kernel_rfl
end Go.Proofs.YtglokbbcckpaaaaGreatDoor
end
section
namespace Go.Proofs.YtglokbbcckpaaaaGreatDoor
open Go
set_option maxRecDepth 100000
theorem jf_h : ((Rows.sourceAnswersRow.lifted == Tryz.prog.liftsFinal) = true) := by kernel_rfl
end Go.Proofs.YtglokbbcckpaaaaGreatDoor
end
