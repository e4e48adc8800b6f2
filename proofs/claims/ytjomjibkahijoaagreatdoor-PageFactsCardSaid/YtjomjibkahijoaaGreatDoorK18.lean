/- Part 18: lemmas for the last text. -/
import Derived.Test.YtjomjibkahijoaaGreatDoorK13
import Derived.Test.YtjomjibkahijoaaGreatDoorK14
import Derived.Test.YtjomjibkahijoaaGreatDoorK15
import Derived.Test.YtjomjibkahijoaaGreatDoorK16
import Derived.Test.YtjomjibkahijoaaGreatDoorK17
set_option linter.unusedVariables false
set_option linter.unusedSimpArgs false
set_option maxRecDepth 100000
open Go.OpenClaim renaming holds_of_wide -> Ns
section
namespace Go.Proofs.YtjomjibkahijoaaGreatDoor
open Go Go.ChangeShapes Go.WideShapes Go.ChangeAt Go.WideMaps Go.WideElems Go.RowKit Go.AM
theorem jf:joinedFacts Tryz.prog 3 Tryz.f3 Rows.pageFactsSpec Rows.pageFactsRow=true:=by
 unfold joinedFacts;rw[bCo,bCp,bCq,bCr,bCs,bCt,bCv,bCu,bCw,bCx,bCy,bCz]
 kernel_rfl
theorem bEs:Rows.PageFactsSaid:=
 Ns 3 Tryz.f3 rfl rfl rfl rfl rfl rfl rfl ⟨rfl,rfl,rfl,rfl,rfl⟩ rfl rfl rfl rfl rfl (by kernel_rfl) Tryz.func3 jf
  (of_decide_eq_true (by kernel_rfl)) (by unfold Func.isWrapper;first | (rw[Zy (by decide +kernel)];kernel_rfl)|(rw[Zx (by decide +kernel)];exact⟨rfl,rfl⟩))
  (fun os started H enc _=>lifted os started H enc)
end Go.Proofs.YtjomjibkahijoaaGreatDoor
end
