/- The tied card of LineShows is proved as it is given. Conditions: none but those in the given statement. -/
import Derived.Test.YtkhdngmjkokcgaaGreatDoorK17
import Derived.Test.YtkhdngmjkokcgaaGreatDoorK18
set_option linter.all false
set_option maxRecDepth 100000
section
namespace Go.Proofs.YtkhdngmjkokcgaaGreatDoor
open Go Go.ChangeShapes Go.WideShapes Go.ChangeAt Go.WideMaps Go.WideElems Go.RowKit Go.AM
theorem lineShows_card:Rows.LineShowsCardSaid:=
 Claim7.holds_tied_plain_at .later [] [.data,.data,.data,.data,.sentinel,.sentinel,.widerDeep,.widerDeep,.widerDeep,.widerDeep,.widerDeep,.funcs,.pinned] Bool.true (Bool.true,"3a83f4dac10bcdb1fc4b1fa82b67bc0b539dfc3dda300be320781a6af0912a3d") Bool.true
  bNL (λ_ h=>by cases h) bCA (λ_ h=>by cases h) lineShows_row_tie rfl ⟨rfl,rfl⟩ bIv rfl
  (λf fn hf Qd=>by
   obtain rfl:f=3:=Option.some.inj ((show Tryz.prog.funcNamed "dactyl/dactyllaw29.LineShows" = Option.some 3 by kernel_rfl).symm.trans hf) |>.symm;obtain rfl:fn=Tryz.f3:=(Option.some.inj (Tryz.func3.symm.trans Qd)).symm;exact⟨bCB,λj t ht=>by
    rw[Tryz.params3]at ht;have hm:t∈[22,3,3,3,3,22]:=by simpa using Array.mem_of_getElem? ht
    have da:([22,3,3,3,3,22].all λu => !Tryz.prog.wantsStandIn u)=true:=bIv;exact (show Tryz.prog.wantsStandIn t=Bool.false by simpa using List.all_eq_true.1 da t hm)⟩)
  bCC
#print axioms lineShows_card
end Go.Proofs.YtkhdngmjkokcgaaGreatDoor
end
