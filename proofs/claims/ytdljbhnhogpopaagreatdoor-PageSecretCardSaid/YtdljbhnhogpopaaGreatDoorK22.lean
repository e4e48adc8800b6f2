/- Part 22: lemmas for the last text. -/
import Derived.Test.YtdljbhnhogpopaaGreatDoorK17
import Derived.Test.YtdljbhnhogpopaaGreatDoorK18
import Derived.Test.YtdljbhnhogpopaaGreatDoorK19
import Derived.Test.YtdljbhnhogpopaaGreatDoorK20
import Derived.Test.YtdljbhnhogpopaaGreatDoorK21
set_option linter.defProp false
set_option linter.unusedVariables false
set_option linter.unusedSimpArgs false
set_option maxRecDepth 100000
open Go.OpenClaim renaming holds_of_wide -> Nu
section
namespace Go.Proofs.YtdljbhnhogpopaaGreatDoor
open Go Go.ChangeShapes Go.WideShapes Go.ChangeAt Go.WideMaps Go.WideElems Go.RowKit Go.AM
def jf:joinedFacts Tryz.prog 3 Tryz.f3 Rows.pageSecretSpec Rows.pageSecretRow=true:=by
 unfold joinedFacts;rw[bCo,bCp,bCq,bCr,bCs,bCt,bCv,bCu,bCw,bCx,bCy,bCz]
 kernel_rfl
def bEh:Rows.PageSecretSaid:=
 Nu 3 Tryz.f3 rfl rfl rfl rfl rfl rfl rfl ⟨rfl,rfl,rfl,rfl,rfl⟩ rfl rfl rfl rfl rfl cB Tryz.func3 jf
  (of_decide_eq_true cB) (by unfold Func.isWrapper;first | (rw[Zy (by decide +kernel)];kernel_rfl)|(rw[Zx (by decide +kernel)];exact⟨rfl,rfl⟩))
  (λos started H enc _=>lifted os started H enc)
end Go.Proofs.YtdljbhnhogpopaaGreatDoor
end
