/- Part 18. -/
import Derived.Test.YtkhdngmjkokcgaaGreatDoorK13
import Derived.Test.YtkhdngmjkokcgaaGreatDoorK14
import Derived.Test.YtkhdngmjkokcgaaGreatDoorK15
import Derived.Test.YtkhdngmjkokcgaaGreatDoorK16
import Derived.Test.YtkhdngmjkokcgaaGreatDoorK17
set_option linter.all false
set_option maxRecDepth 100000
section
namespace Go.Proofs.YtkhdngmjkokcgaaGreatDoor
open Go Go.ChangeShapes Go.WideShapes Go.ChangeAt Go.WideMaps Go.WideElems Go.RowKit Go.AM
def jf:joinedFacts Tryz.prog 3 Tryz.f3 Rows.lineShowsSpec Rows.lineShowsRow=true:=by
 unfold joinedFacts;rw[bCo,bCp,bCq,bCr,bCs,bCt,bCv,bCu,bCw,bCx,bCy,bCz]
 kernel_rfl
def bNL:Rows.LineShowsSaid:=
 Go.OpenClaim.holds_of_wide 3 Tryz.f3 rfl rfl rfl rfl rfl rfl rfl ⟨rfl,rfl,rfl,rfl,rfl⟩ rfl rfl rfl rfl rfl bIv Tryz.func3 jf
  (of_decide_eq_true bIv) (by unfold Func.isWrapper;first | (rw[Vx (by decide +kernel)];kernel_rfl)|(rw[Vw (by decide +kernel)];exact⟨rfl,rfl⟩))
  (λos started H enc _=>lifted os started H enc)
end Go.Proofs.YtkhdngmjkokcgaaGreatDoor
end
