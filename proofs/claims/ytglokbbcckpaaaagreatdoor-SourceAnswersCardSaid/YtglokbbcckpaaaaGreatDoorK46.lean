/- Part 46 of the proof that stands in the last text of this folder (lemmas; no statement of its own). -/
import Derived.Test.YtglokbbcckpaaaaGreatDoorK42
import Derived.Test.YtglokbbcckpaaaaGreatDoorK43
import Derived.Test.YtglokbbcckpaaaaGreatDoorK44
import Derived.Test.YtglokbbcckpaaaaGreatDoorK45
set_option linter.unusedVariables false
set_option linter.unusedSimpArgs false
section
namespace Go.Proofs.YtglokbbcckpaaaaGreatDoor
open Go Go.ChangeShapes Go.WideShapes Go.ChangeAt Go.WideMaps Go.WideElems Go.RowKit Go.AM
set_option maxRecDepth 100000
theorem jf : joinedFacts Tryz.prog 3 Tryz.f3 Rows.sourceAnswersSpec Rows.sourceAnswersRow = true := by
 unfold joinedFacts
 rw [jf_a, jf_b, jf_c, jf_d, jf_e, jf_f, jf_g, jf_h, jf_i, jf_j, jf_k, jf_l]
 kernel_rfl
theorem ajCZ : Rows.SourceAnswersSaid :=
 OpenClaim.holds_of_wide 3 Tryz.f3 rfl rfl rfl rfl rfl rfl rfl ⟨rfl, rfl, rfl, rfl, rfl⟩ rfl rfl rfl rfl rfl (by kernel_rfl) Tryz.func3 jf
  (of_decide_eq_true (by kernel_rfl)) (by unfold Func.isWrapper; first | (rw [if_pos (by decide +kernel)]; kernel_rfl) | (rw [if_neg (by decide +kernel)]; exact ⟨rfl, rfl⟩))
  (fun os started H enc _ => lifted os started H enc)
end Go.Proofs.YtglokbbcckpaaaaGreatDoor
end
