/- The tied card: the proof. -/
import Derived.Test.YtglokbbcckpaaaaGreatDoorK45
import Derived.Test.YtglokbbcckpaaaaGreatDoorK46
set_option linter.unusedVariables false
set_option linter.unusedSimpArgs false
section
namespace Go.Proofs.YtglokbbcckpaaaaGreatDoor
open Go Go.ChangeShapes Go.WideShapes Go.ChangeAt Go.WideMaps Go.WideElems Go.RowKit Go.AM
set_option maxRecDepth 100000
theorem sourceAnswers_card : Rows.SourceAnswersCardSaid :=
 Claim7.holds_tied_plain_at .later [] [.data, .data, .data, .data, .sentinel, .sentinel, .widerDeep, .widerDeep, .widerDeep, .widerDeep, .widerDeep, .pinned] true (true, "ca9d4a6f5797a30748e22b2a986dbf8ef3270b8601fc399887d3fb149e0de787") true
  ajCZ (fun _ h => by cases h) jf_m (fun _ h => by cases h) sourceAnswers_row_tie rfl ⟨rfl, rfl⟩ (by kernel_rfl) rfl
  (fun f fn hf hfn => by
   obtain rfl : f = 3 := Option.some.inj ((show Tryz.prog.funcNamed "dactyl/dactyllaw25.SourceAnswers" = some 3 by kernel_rfl).symm.trans hf) |>.symm
   obtain rfl : fn = Tryz.f3 := (Option.some.inj (Tryz.func3.symm.trans hfn)).symm
   exact ⟨jf_n, fun j t ht => by
    rw [Tryz.params3] at ht
    have hm : t ∈ [22, 3, 23, 9, 22] := by simpa using Array.mem_of_getElem? ht
    have hall : ([22, 3, 23, 9, 22].all fun u => !Tryz.prog.wantsStandIn u) = true := by kernel_rfl
    exact (show Tryz.prog.wantsStandIn t = false by simpa using List.all_eq_true.1 hall t hm)⟩)
  jf_o
#print axioms sourceAnswers_card
end Go.Proofs.YtglokbbcckpaaaaGreatDoor
end
