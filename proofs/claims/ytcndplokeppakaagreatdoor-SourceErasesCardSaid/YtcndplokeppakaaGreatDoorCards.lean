/-
  DERIVED. GIVEN WITH THE SEED: THE CARDS: each row of YtcndplokeppakaaGreatDoorRows.lean that lists a variable, with what it lists TIED to the program's text (the seventh form; the later family's looks); each row that meets fmt, with fmt's text TOLD by the authors' own Lean function (tested against real Go, not proved from fmt's source: count such statements apart). THE CARD IS WHAT COUNTS. Prove the row's statement (the work); the ties are given (YtcndplokeppakaaGreatDoorTie.lean); close each card by the builder's one call (the guide's Derived/Test/ToyasCard.lean, 'card_holds'). Laid BY PROGRAM, IN A SANDBOX (cutbox-door.mjs). By AI agents, Wed Nov 11 2026. No macro, syntax, notation, axiom, sorry.
-/
import Derived.Test.YtcndplokeppakaaGreatDoorRows
import GoSem.ClaimSeven
namespace Go.Proofs.YtcndplokeppakaaGreatDoor
namespace Rows

/-- THE TIED CARD OF 'dactyllaw25.SourceErases'. -/
def sourceErasesCard : Claim7 := { stood := { row := sourceErasesRow, standIns := [], harness := (true, "eebf17753d63d621f07a5814d0906837b4cebc4aa3e211688f6ce6a599f90e0e"), looks := true }, kinds := [], alts := [], laidByText := true, laidKinds := [.data, .data, .data, .data, .sentinel, .sentinel, .widerDeep, .widerDeep, .widerDeep, .widerDeep, .widerDeep, .funcs, .pinned], laidTests := true, laidLooks := .later }
def SourceErasesCardSaid : Prop := Claim7.holds Tryz.pinned (.plain (OpenSpec.ofChange sourceErasesSpec)) sourceErasesCard

/-- THE SECOND FORM's CARD OF 'dactyllaw25.SourceErases'. -/
def sourceErasesUptoCard : Claim7 := { stood := { row := sourceErasesUptoRow, standIns := [], harness := (true, "eebf17753d63d621f07a5814d0906837b4cebc4aa3e211688f6ce6a599f90e0e"), looks := true }, kinds := [], alts := [], laidByText := true, laidKinds := [.data, .data, .data, .data, .sentinel, .sentinel, .widerDeep, .widerDeep, .widerDeep, .widerDeep, .widerDeep, .funcs, .pinned], laidTests := true, laidLooks := .later }
def SourceErasesUptoCardSaid : Prop := Claim7.holds Tryz.pinned (.plain (OpenSpec.upto sourceErasesSpec)) sourceErasesUptoCard
end Rows
end Go.Proofs.YtcndplokeppakaaGreatDoor
