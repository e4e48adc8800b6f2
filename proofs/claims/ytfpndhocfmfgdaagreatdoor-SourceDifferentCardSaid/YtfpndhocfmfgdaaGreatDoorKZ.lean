/- The tied card: the proof. -/
import Derived.Test.YtfpndhocfmfgdaaGreatDoorK48
import Derived.Test.YtfpndhocfmfgdaaGreatDoorK49
set_option linter.unusedVariables false
set_option linter.unusedSimpArgs false
section
namespace Go.Proofs.YtfpndhocfmfgdaaGreatDoor
open Go Go.ChangeShapes Go.WideShapes Go.ChangeAt Go.WideMaps Go.WideElems Go.RowKit Go.AM
set_option maxRecDepth 100000
theorem sourceDifferent_card:Rows.SourceDifferentCardSaid:=
 Claim7.holds_tied_plain_at .later [] [.data,.data,.data,.data,.sentinel,.sentinel,.widerDeep,.widerDeep,.widerDeep,.widerDeep,.widerDeep,.pinned] true (true,"06acb1ac14a61c76681ecd6f4c07c9dee31c8fb63509c56b306ad5267d9a403c") true
  zQ (fun _ h=>by cases h) aYu (fun _ h=>by cases h) sourceDifferent_row_tie rfl ⟨rfl,rfl⟩ (by kernel_rfl) rfl
  (fun f fn hf hfn=>by
   obtain rfl:f=3:=Option.some.inj ((show Tryz.prog.funcNamed "dactyl/dactyllaw25.SourceDifferent" = some 3 by kernel_rfl).symm.trans hf) |>.symm
   obtain rfl:fn=Tryz.f3:=(Option.some.inj (Tryz.func3.symm.trans hfn)).symm;exact⟨aYv,fun j t ht=>by
    rw[Tryz.params3]at ht;have hm:t∈[22,22,3,3,3]:=by simpa using Array.mem_of_getElem? ht
    have hall:([22,22,3,3,3].all fun u => !Tryz.prog.wantsStandIn u)=true:=by kernel_rfl
    exact (show Tryz.prog.wantsStandIn t=false by simpa using List.all_eq_true.1 hall t hm)⟩)
  aYw
#print axioms sourceDifferent_card
end Go.Proofs.YtfpndhocfmfgdaaGreatDoor
end
