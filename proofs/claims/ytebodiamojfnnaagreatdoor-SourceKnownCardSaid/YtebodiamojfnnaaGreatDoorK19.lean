/- Part 19: lemmas for the last text. -/
import Derived.Test.YtebodiamojfnnaaGreatDoorK14
import Derived.Test.YtebodiamojfnnaaGreatDoorK15
import Derived.Test.YtebodiamojfnnaaGreatDoorK16
import Derived.Test.YtebodiamojfnnaaGreatDoorK17
import Derived.Test.YtebodiamojfnnaaGreatDoorK18
set_option linter.unusedVariables false
set_option linter.unusedSimpArgs false
set_option maxRecDepth 100000
open Go.OpenClaim renaming holds_of_wide -> Qq
section
namespace Go.Proofs.YtebodiamojfnnaaGreatDoor
open Go Go.ChangeShapes Go.WideShapes Go.ChangeAt Go.WideMaps Go.WideElems Go.RowKit Go.AM
theorem jf:joinedFacts Tryz.prog 3 Tryz.f3 Rows.sourceKnownSpec Rows.sourceKnownRow=true:=by
 unfold joinedFacts;rw[bCo,bCp,bCq,bCr,bCs,bCt,bCv,bCu,bCw,bCx,bCy,bCz]
 kernel_rfl
theorem aED:Rows.SourceKnownSaid:=
 Qq 3 Tryz.f3 rfl rfl rfl rfl rfl rfl rfl ⟨rfl,rfl,rfl,rfl,rfl⟩ rfl rfl rfl rfl rfl (by kernel_rfl) Tryz.func3 jf
  (of_decide_eq_true (by kernel_rfl)) (by unfold Func.isWrapper;first | (rw[Zy (by decide +kernel)];kernel_rfl)|(rw[Zx (by decide +kernel)];exact⟨rfl,rfl⟩))
  (fun os started H enc _=>lifted os started H enc)
end Go.Proofs.YtebodiamojfnnaaGreatDoor
end
