/- Part 19: lemmas for the last text. -/
import Derived.Test.YtcndplokeppakaaGreatDoorK14
import Derived.Test.YtcndplokeppakaaGreatDoorK15
import Derived.Test.YtcndplokeppakaaGreatDoorK16
import Derived.Test.YtcndplokeppakaaGreatDoorK17
import Derived.Test.YtcndplokeppakaaGreatDoorK18
set_option linter.unusedVariables false
set_option linter.unusedSimpArgs false
set_option maxRecDepth 100000
open Go.OpenClaim renaming holds_of_wide -> QP
section
namespace Go.Proofs.YtcndplokeppakaaGreatDoor
open Go Go.ChangeShapes Go.WideShapes Go.ChangeAt Go.WideMaps Go.WideElems Go.RowKit Go.AM
theorem jf:joinedFacts Tryz.prog 3 Tryz.f3 Rows.sourceErasesSpec Rows.sourceErasesRow=true:=by
 unfold joinedFacts;rw[bCo,bCp,bCq,bCr,bCs,bCt,bCv,bCu,bCw,bCx,bCy,bCz]
 kernel_rfl
theorem bJ3:Rows.SourceErasesSaid:=
 QP 3 Tryz.f3 rfl rfl rfl rfl rfl rfl rfl ⟨rfl,rfl,rfl,rfl,rfl⟩ rfl rfl rfl rfl rfl bIv Tryz.func3 jf
  (of_decide_eq_true bIv) (by unfold Func.isWrapper;first | (rw[Zy (by decide +kernel)];kernel_rfl)|(rw[Zx (by decide +kernel)];exact⟨rfl,rfl⟩))
  (fun os started H enc _=>lifted os started H enc)
end Go.Proofs.YtcndplokeppakaaGreatDoor
end
