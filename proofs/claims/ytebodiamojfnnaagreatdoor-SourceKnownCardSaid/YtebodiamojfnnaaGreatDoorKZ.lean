/- The tied card of SourceKnown is proved as it is given. Conditions: none but those in the given statement. -/
import Derived.Test.YtebodiamojfnnaaGreatDoorK18
import Derived.Test.YtebodiamojfnnaaGreatDoorK19
set_option linter.unusedVariables false
set_option linter.unusedSimpArgs false
set_option maxRecDepth 100000
open Bool renaming true -> Qt, false -> Qu
open Option renaming some -> Qr
open Option.some renaming inj -> DZ
section
namespace Go.Proofs.YtebodiamojfnnaaGreatDoor
open Go Go.ChangeShapes Go.WideShapes Go.ChangeAt Go.WideMaps Go.WideElems Go.RowKit Go.AM
theorem sourceKnown_card:Rows.SourceKnownCardSaid:=
 Claim7.holds_tied_plain_at .later [] [.data,.data,.data,.data,.sentinel,.sentinel,.widerDeep,.widerDeep,.widerDeep,.widerDeep,.widerDeep,.funcs,.pinned] Qt (Qt,"d27ad1208713fbc4bfa9967307843a0209bc7a1716a8347b97e093330f32b722") Qt
  aED (fun _ h=>by cases h) bCA (fun _ h=>by cases h) sourceKnown_row_tie rfl ⟨rfl,rfl⟩ (by kernel_rfl) rfl
  (fun f fn hf ta=>by
   obtain rfl:f=3:=DZ ((show Tryz.prog.funcNamed "dactyl/dactyllaw25.SourceKnown" = Qr 3 by kernel_rfl).symm.trans hf) |>.symm;obtain rfl:fn=Tryz.f3:=(DZ (Tryz.func3.symm.trans ta)).symm;exact⟨bCB,fun j t ht=>by
    rw[Tryz.params3]at ht;have hm:t∈[22,3,3,3]:=by simpa using Array.mem_of_getElem? ht
    have da:([22,3,3,3].all fun u => !Tryz.prog.wantsStandIn u)=true:=by kernel_rfl
    exact (show Tryz.prog.wantsStandIn t=Qu by simpa using List.all_eq_true.1 da t hm)⟩)
  bCC
#print axioms sourceKnown_card
end Go.Proofs.YtebodiamojfnnaaGreatDoor
end
