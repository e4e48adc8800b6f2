/- The tied card of PageFacts is proved as it is given. Conditions: none but those in the given statement. -/
import Derived.Test.YtjomjibkahijoaaGreatDoorK17
import Derived.Test.YtjomjibkahijoaaGreatDoorK18
set_option linter.unusedVariables false
set_option linter.unusedSimpArgs false
set_option maxRecDepth 100000
open Bool renaming true -> Qt, false -> Qu
open Option renaming some -> Qr
open Option.some renaming inj -> DZ
section
namespace Go.Proofs.YtjomjibkahijoaaGreatDoor
open Go Go.ChangeShapes Go.WideShapes Go.ChangeAt Go.WideMaps Go.WideElems Go.RowKit Go.AM
theorem pageFacts_card:Rows.PageFactsCardSaid:=
 Claim7.holds_tied_plain_at .later [] [.data,.data,.data,.data,.sentinel,.sentinel,.widerDeep,.widerDeep,.widerDeep,.widerDeep,.widerDeep,.funcs,.pinned] Qt (Qt,"15ff795295f8f764ffe932f3bce8ee0726cd38f8c691e4615d1ac267ff113505") Qt
  bEs (fun _ h=>by cases h) bCA (fun _ h=>by cases h) pageFacts_row_tie rfl ⟨rfl,rfl⟩ (by kernel_rfl) rfl
  (fun f fn hf ta=>by
   obtain rfl:f=3:=DZ ((show Tryz.prog.funcNamed "dactyl/dactyllaw26.PageFacts" = Qr 3 by kernel_rfl).symm.trans hf) |>.symm;obtain rfl:fn=Tryz.f3:=(DZ (Tryz.func3.symm.trans ta)).symm;exact⟨bCB,fun j t ht=>by
    rw[Tryz.params3]at ht;have hm:t∈[22]:=by simpa using Array.mem_of_getElem? ht
    have da:([22].all fun u => !Tryz.prog.wantsStandIn u)=true:=by kernel_rfl
    exact (show Tryz.prog.wantsStandIn t=Qu by simpa using List.all_eq_true.1 da t hm)⟩)
  bCC
#print axioms pageFacts_card
end Go.Proofs.YtjomjibkahijoaaGreatDoor
end
