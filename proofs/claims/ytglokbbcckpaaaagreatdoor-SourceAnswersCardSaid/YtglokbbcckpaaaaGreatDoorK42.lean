/- Part 42 of the proof that stands in the last text of this folder (lemmas; no statement of its own). -/
import Derived.Test.YtglokbbcckpaaaaGreatDoorK41
set_option linter.unusedVariables false
set_option linter.unusedSimpArgs false
section
namespace Go.Proofs.YtglokbbcckpaaaaGreatDoor
open Go
set_option maxRecDepth 100000
theorem jf_a : (Rows.sourceAnswersRow.wf (OpenSpec.ofChange Rows.sourceAnswersSpec) = true) := by kernel_rfl
end Go.Proofs.YtglokbbcckpaaaaGreatDoor
end
section
namespace Go.Proofs.YtglokbbcckpaaaaGreatDoor
open Go
set_option maxRecDepth 100000
theorem jf_b : (laidOutB Tryz.prog = true) := by kernel_rfl
end Go.Proofs.YtglokbbcckpaaaaGreatDoor
end
section
namespace Go.Proofs.YtglokbbcckpaaaaGreatDoor
open Go
set_option maxRecDepth 100000
theorem jf_c : (mapsRowed Tryz.prog = true) := by kernel_rfl
end Go.Proofs.YtglokbbcckpaaaaGreatDoor
end
section
namespace Go.Proofs.YtglokbbcckpaaaaGreatDoor
open Go
set_option maxRecDepth 100000
theorem jf_d : ((Rows.sourceAnswersRow.inPlace == Tryz.prog.inPlace 3) = true) := by kernel_rfl
end Go.Proofs.YtglokbbcckpaaaaGreatDoor
end
