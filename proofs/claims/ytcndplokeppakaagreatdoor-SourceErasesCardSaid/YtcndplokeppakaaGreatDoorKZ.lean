/- The tied card of SourceErases is proved as it is given. Conditions: none but those in the given statement. -/
import Derived.Test.YtcndplokeppakaaGreatDoorK18
import Derived.Test.YtcndplokeppakaaGreatDoorK19
set_option linter.unusedVariables false
set_option linter.unusedSimpArgs false
set_option maxRecDepth 100000
open Bool renaming true -> QS, false -> QT
open Option renaming some -> QQ
open Option.some renaming inj -> DZ
section
namespace Go.Proofs.YtcndplokeppakaaGreatDoor
open Go Go.ChangeShapes Go.WideShapes Go.ChangeAt Go.WideMaps Go.WideElems Go.RowKit Go.AM
theorem sourceErases_card:Rows.SourceErasesCardSaid:=
 Claim7.holds_tied_plain_at .later [] [.data,.data,.data,.data,.sentinel,.sentinel,.widerDeep,.widerDeep,.widerDeep,.widerDeep,.widerDeep,.funcs,.pinned] QS (QS,"eebf17753d63d621f07a5814d0906837b4cebc4aa3e211688f6ce6a599f90e0e") QS
  bJ3 (fun _ h=>by cases h) bCA (fun _ h=>by cases h) sourceErases_row_tie rfl ⟨rfl,rfl⟩ bIv rfl
  (fun f fn hf Qd=>by
   obtain rfl:f=3:=DZ ((show Tryz.prog.funcNamed "dactyl/dactyllaw25.SourceErases" = QQ 3 by kernel_rfl).symm.trans hf) |>.symm;obtain rfl:fn=Tryz.f3:=(DZ (Tryz.func3.symm.trans Qd)).symm;exact⟨bCB,fun j t ht=>by
    rw[Tryz.params3]at ht;have hm:t∈[22,3,3,3]:=by simpa using Array.mem_of_getElem? ht
    have da:([22,3,3,3].all fun u => !Tryz.prog.wantsStandIn u)=true:=bIv;exact (show Tryz.prog.wantsStandIn t=QT by simpa using List.all_eq_true.1 da t hm)⟩)
  bCC
#print axioms sourceErases_card
end Go.Proofs.YtcndplokeppakaaGreatDoor
end
