/-
  DERIVED. GIVEN WITH THE SEED: THE CARDS: each row of YtdljbhnhogpopaaGreatDoorRows.lean that lists a variable, with what it lists TIED to the program's text (the seventh form; the later family's looks); each row that meets fmt, with fmt's text TOLD by the authors' own Lean function (tested against real Go, not proved from fmt's source: count such statements apart). THE CARD IS WHAT COUNTS. Prove the row's statement (the work); the ties are given (YtdljbhnhogpopaaGreatDoorTie.lean); close each card by the builder's one call (the guide's Derived/Test/ToyasCard.lean, 'card_holds'). Laid BY PROGRAM, IN A SANDBOX (cutbox-door.mjs). By AI agents, Wed Nov 11 2026. No macro, syntax, notation, axiom, sorry.
-/
import Derived.Test.YtdljbhnhogpopaaGreatDoorRows
import GoSem.ClaimSeven
namespace Go.Proofs.YtdljbhnhogpopaaGreatDoor
namespace Rows

/-- THE TIED CARD OF 'dactyllaw26.PageSecret'. -/
def pageSecretCard : Claim7 := { stood := { row := pageSecretRow, standIns := [], harness := (true, "b2899c3c813ff2ab8ce5a0c13aa28a17ebfe311d10ba4a4441f9545c4fafdb96"), looks := true }, kinds := [], alts := [], laidByText := true, laidKinds := [.data, .data, .data, .data, .sentinel, .sentinel, .widerDeep, .widerDeep, .widerDeep, .widerDeep, .widerDeep, .funcs, .pinned], laidTests := true, laidLooks := .later }
def PageSecretCardSaid : Prop := Claim7.holds Tryz.pinned (.plain (OpenSpec.ofChange pageSecretSpec)) pageSecretCard

/-- THE SECOND FORM's CARD OF 'dactyllaw26.PageSecret'. -/
def pageSecretUptoCard : Claim7 := { stood := { row := pageSecretUptoRow, standIns := [], harness := (true, "b2899c3c813ff2ab8ce5a0c13aa28a17ebfe311d10ba4a4441f9545c4fafdb96"), looks := true }, kinds := [], alts := [], laidByText := true, laidKinds := [.data, .data, .data, .data, .sentinel, .sentinel, .widerDeep, .widerDeep, .widerDeep, .widerDeep, .widerDeep, .funcs, .pinned], laidTests := true, laidLooks := .later }
def PageSecretUptoCardSaid : Prop := Claim7.holds Tryz.pinned (.plain (OpenSpec.upto pageSecretSpec)) pageSecretUptoCard
end Rows
end Go.Proofs.YtdljbhnhogpopaaGreatDoor
