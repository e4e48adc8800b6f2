/-
  DERIVED. GIVEN WITH THE SEED: THE CARDS: each row of YtjomjibkahijoaaGreatDoorRows.lean that lists a variable, with what it lists TIED to the program's text (the seventh form; the later family's looks); each row that meets fmt, with fmt's text TOLD by the authors' own Lean function (tested against real Go, not proved from fmt's source: count such statements apart). THE CARD IS WHAT COUNTS. Prove the row's statement (the work); the ties are given (YtjomjibkahijoaaGreatDoorTie.lean); close each card by the builder's one call (the guide's Derived/Test/ToyasCard.lean, 'card_holds'). Laid BY PROGRAM, IN A SANDBOX (cutbox-door.mjs). By AI agents, Wed Nov 11 2026. No macro, syntax, notation, axiom, sorry.
-/
import Derived.Test.YtjomjibkahijoaaGreatDoorRows
import GoSem.ClaimSeven
namespace Go.Proofs.YtjomjibkahijoaaGreatDoor
namespace Rows

/-- THE TIED CARD OF 'dactyllaw26.PageFacts'. -/
def pageFactsCard : Claim7 := { stood := { row := pageFactsRow, standIns := [], harness := (true, "15ff795295f8f764ffe932f3bce8ee0726cd38f8c691e4615d1ac267ff113505"), looks := true }, kinds := [], alts := [], laidByText := true, laidKinds := [.data, .data, .data, .data, .sentinel, .sentinel, .widerDeep, .widerDeep, .widerDeep, .widerDeep, .widerDeep, .funcs, .pinned], laidTests := true, laidLooks := .later }
def PageFactsCardSaid : Prop := Claim7.holds Tryz.pinned (.plain (OpenSpec.ofChange pageFactsSpec)) pageFactsCard

/-- THE SECOND FORM's CARD OF 'dactyllaw26.PageFacts'. -/
def pageFactsUptoCard : Claim7 := { stood := { row := pageFactsUptoRow, standIns := [], harness := (true, "15ff795295f8f764ffe932f3bce8ee0726cd38f8c691e4615d1ac267ff113505"), looks := true }, kinds := [], alts := [], laidByText := true, laidKinds := [.data, .data, .data, .data, .sentinel, .sentinel, .widerDeep, .widerDeep, .widerDeep, .widerDeep, .widerDeep, .funcs, .pinned], laidTests := true, laidLooks := .later }
def PageFactsUptoCardSaid : Prop := Claim7.holds Tryz.pinned (.plain (OpenSpec.upto pageFactsSpec)) pageFactsUptoCard
end Rows
end Go.Proofs.YtjomjibkahijoaaGreatDoor
