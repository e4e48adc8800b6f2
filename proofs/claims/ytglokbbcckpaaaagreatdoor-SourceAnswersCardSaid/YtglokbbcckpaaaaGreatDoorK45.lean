/- Part 45 of the proof that stands in the last text of this folder (lemmas; no statement of its own). -/
import Derived.Test.YtglokbbcckpaaaaGreatDoorK41
set_option linter.unusedVariables false
set_option linter.unusedSimpArgs false
section
namespace Go.Proofs.YtglokbbcckpaaaaGreatDoor
open Go
set_option maxRecDepth 100000
theorem jf_k : ((Tryz.prog.make == some Rows.sourceAnswersRow.make) = true) := by kernel_rfl
end Go.Proofs.YtglokbbcckpaaaaGreatDoor
end
section
namespace Go.Proofs.YtglokbbcckpaaaaGreatDoor
open Go
set_option maxRecDepth 100000
theorem jf_l : ((Tryz.prog.mayEnter) = true) := by kernel_rfl
end Go.Proofs.YtglokbbcckpaaaaGreatDoor
end
section
namespace Go.Proofs.YtglokbbcckpaaaaGreatDoor
open Go
set_option maxRecDepth 100000
theorem jf_m : (Rows.sourceAnswersRow.wfByText (OpenSpec.ofChange Rows.sourceAnswersSpec) = true) := by kernel_rfl
end Go.Proofs.YtglokbbcckpaaaaGreatDoor
end
section
namespace Go.Proofs.YtglokbbcckpaaaaGreatDoor
open Go
set_option maxRecDepth 100000
theorem jf_n : (true = Tryz.prog.looks []) := by kernel_rfl
end Go.Proofs.YtglokbbcckpaaaaGreatDoor
end
section
namespace Go.Proofs.YtglokbbcckpaaaaGreatDoor
open Go
set_option maxRecDepth 100000
theorem arkZ {P : Program} (h : P.funcs.toList.any Func.goes = false) (f : FuncId) : P.goes f = false := by
 have h1 : P.funcs.any Func.goes = false := by rw [<- Array.any_toList]; exact h
 unfold Program.goes
 rw [h1, Bool.and_false, Bool.or_false, Bool.eq_false_iff]
 intro hc
 obtain ⟨g, _, hg⟩ := List.any_eq_true.1 hc
 rw [Option.any_eq_true] at hg
 obtain ⟨fn, e, hf⟩ := hg
 rw [List.any_eq_false] at h
 obtain ⟨hi, rfl⟩ := Array.getElem?_eq_some_iff.1 e
 exact h _ (Array.mem_toList_iff.2 (Array.getElem_mem hi)) hf
theorem aseZ {P : Program} (h : P.funcs.toList.any Func.goes = false) (c : OpenClaim) : false = c.goesBy P := by
 unfold OpenClaim.goesBy Program.goesAt Program.goesFrom
 have h2 : (P.funcNamed c.func).any P.goes = false := by
  cases P.funcNamed c.func with
  | none => rfl
  | some f => exact arkZ h f
 have h3 : P.inits.toList.any P.goes = false := by
  rw [List.any_eq_false]
  intro x _
  rw [arkZ h x]
  exact Bool.noConfusion
 rw [h2, h3]
 split <;> rfl
theorem awoZ : Tryz.prog.funcs.toList.any Func.goes = false := by kernel_rfl
theorem jf_o : (false = Rows.sourceAnswersRow.goesBy Tryz.prog) := aseZ awoZ _
end Go.Proofs.YtglokbbcckpaaaaGreatDoor
end
