/-
  DERIVED. GIVEN WITH THE SEED: THE CARDS: each row of YtglokbbcckpaaaaGreatDoorRows.lean that lists a variable, with what it lists TIED to the program's text (the seventh form; the later family's looks); each row that meets fmt, with fmt's text TOLD by the authors' own Lean function (tested against real Go, not proved from fmt's source: count such statements apart). THE CARD IS WHAT COUNTS. Prove the row's statement (the work); the ties are given (YtglokbbcckpaaaaGreatDoorTie.lean); close each card by the builder's one call (the guide's Derived/Test/ToyasCard.lean, 'card_holds'). Laid BY PROGRAM, IN A SANDBOX (cutbox-door.mjs). By AI agents, Wed Nov 11 2026. No macro, syntax, notation, axiom, sorry.
-/
import Derived.Test.YtglokbbcckpaaaaGreatDoorRows
import GoSem.ClaimSeven
namespace Go.Proofs.YtglokbbcckpaaaaGreatDoor
namespace Rows

/-- THE TIED CARD OF 'dactyllaw25.SourceAnswers'. -/
def sourceAnswersCard : Claim7 := { stood := { row := sourceAnswersRow, standIns := [], harness := (true, "ca9d4a6f5797a30748e22b2a986dbf8ef3270b8601fc399887d3fb149e0de787"), looks := true }, kinds := [], alts := [], laidByText := true, laidKinds := [.data, .data, .data, .data, .sentinel, .sentinel, .widerDeep, .widerDeep, .widerDeep, .widerDeep, .widerDeep, .pinned], laidTests := true, laidLooks := .later }
def SourceAnswersCardSaid : Prop := Claim7.holds Tryz.pinned (.plain (OpenSpec.ofChange sourceAnswersSpec)) sourceAnswersCard

/-- THE SECOND FORM's CARD OF 'dactyllaw25.SourceAnswers'. -/
def sourceAnswersUptoCard : Claim7 := { stood := { row := sourceAnswersUptoRow, standIns := [], harness := (true, "ca9d4a6f5797a30748e22b2a986dbf8ef3270b8601fc399887d3fb149e0de787"), looks := true }, kinds := [], alts := [], laidByText := true, laidKinds := [.data, .data, .data, .data, .sentinel, .sentinel, .widerDeep, .widerDeep, .widerDeep, .widerDeep, .widerDeep, .pinned], laidTests := true, laidLooks := .later }
def SourceAnswersUptoCardSaid : Prop := Claim7.holds Tryz.pinned (.plain (OpenSpec.upto sourceAnswersSpec)) sourceAnswersUptoCard
end Rows
end Go.Proofs.YtglokbbcckpaaaaGreatDoor
