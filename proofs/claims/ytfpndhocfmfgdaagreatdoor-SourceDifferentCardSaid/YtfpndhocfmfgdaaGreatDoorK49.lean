/- Part 49: lemmas for the last text. -/
import Derived.Test.YtfpndhocfmfgdaaGreatDoorK44
import Derived.Test.YtfpndhocfmfgdaaGreatDoorK45
import Derived.Test.YtfpndhocfmfgdaaGreatDoorK46
import Derived.Test.YtfpndhocfmfgdaaGreatDoorK47
import Derived.Test.YtfpndhocfmfgdaaGreatDoorK48
set_option linter.unusedVariables false
set_option linter.unusedSimpArgs false
section
namespace Go.Proofs.YtfpndhocfmfgdaaGreatDoor
open Go Go.ChangeShapes Go.WideShapes Go.ChangeAt Go.WideMaps Go.WideElems Go.RowKit Go.AM
set_option maxRecDepth 100000
theorem jf:joinedFacts Tryz.prog 3 Tryz.f3 Rows.sourceDifferentSpec Rows.sourceDifferentRow=true:=by
 unfold joinedFacts;rw[aYi,aYj,aYk,aYl,aYm,aYn,aYp,aYo,aYq,aYr,aYs,aYt]
 kernel_rfl
theorem zQ:Rows.SourceDifferentSaid:=
 OpenClaim.holds_of_wide 3 Tryz.f3 rfl rfl rfl rfl rfl rfl rfl ⟨rfl,rfl,rfl,rfl,rfl⟩ rfl rfl rfl rfl rfl (by kernel_rfl) Tryz.func3 jf
  (of_decide_eq_true (by kernel_rfl)) (by unfold Func.isWrapper;first | (rw[if_pos (by decide +kernel)];kernel_rfl)|(rw[if_neg (by decide +kernel)];exact⟨rfl,rfl⟩))
  (fun os started H enc _=>lifted os started H enc)
end Go.Proofs.YtfpndhocfmfgdaaGreatDoor
end
