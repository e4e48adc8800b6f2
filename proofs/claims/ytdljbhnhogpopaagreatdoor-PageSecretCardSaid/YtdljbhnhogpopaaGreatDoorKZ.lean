/- The tied card of PageSecret is proved as it is given. Conditions: none but those in the given statement. -/
import Derived.Test.YtdljbhnhogpopaaGreatDoorK21
import Derived.Test.YtdljbhnhogpopaaGreatDoorK22
set_option linter.defProp false
set_option linter.unusedVariables false
set_option linter.unusedSimpArgs false
set_option maxRecDepth 100000
open Bool renaming true -> Pa, false -> Po
open Option renaming some -> N1
open Option.some renaming inj -> DZ
section
namespace Go.Proofs.YtdljbhnhogpopaaGreatDoor
open Go Go.ChangeShapes Go.WideShapes Go.ChangeAt Go.WideMaps Go.WideElems Go.RowKit Go.AM
theorem pageSecret_card:Rows.PageSecretCardSaid:=
 Claim7.holds_tied_plain_at .later [] [.data,.data,.data,.data,.sentinel,.sentinel,.widerDeep,.widerDeep,.widerDeep,.widerDeep,.widerDeep,.funcs,.pinned] Pa (Pa,"b2899c3c813ff2ab8ce5a0c13aa28a17ebfe311d10ba4a4441f9545c4fafdb96") Pa
  bEh (λ_ h=>by cases h) bCA (λ_ h=>by cases h) pageSecret_row_tie rfl ⟨rfl,rfl⟩ cB rfl
  (λf fn hf Qd=>by
   obtain rfl:f=3:=DZ ((show Tryz.prog.funcNamed "dactyl/dactyllaw26.PageSecret" = N1 3 by kernel_rfl).symm.trans hf) |>.symm;obtain rfl:fn=Tryz.f3:=(DZ (Tryz.func3.symm.trans Qd)).symm;exact⟨bCB,λj t ht=>by
    rw[Tryz.params3]at ht;have hm:t∈[22,22]:=by simpa using Array.mem_of_getElem? ht
    have da:([22,22].all λu => !Tryz.prog.wantsStandIn u)=true:=cB;exact (show Tryz.prog.wantsStandIn t=Po by simpa using List.all_eq_true.1 da t hm)⟩)
  bCC
#print axioms pageSecret_card
end Go.Proofs.YtdljbhnhogpopaaGreatDoor
end
