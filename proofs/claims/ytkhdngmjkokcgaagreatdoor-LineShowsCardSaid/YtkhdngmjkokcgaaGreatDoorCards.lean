/-
  DERIVED. GIVEN WITH THE SEED: THE CARDS: each row of YtkhdngmjkokcgaaGreatDoorRows.lean that lists a variable, with what it lists TIED to the program's text (the seventh form; the later family's looks); each row that meets fmt, with fmt's text TOLD by the authors' own Lean function (tested against real Go, not proved from fmt's source: count such statements apart). THE CARD IS WHAT COUNTS. Prove the row's statement (the work); the ties are given (YtkhdngmjkokcgaaGreatDoorTie.lean); close each card by the builder's one call (the guide's Derived/Test/ToyasCard.lean, 'card_holds'). Laid BY PROGRAM, IN A SANDBOX (cutbox-door.mjs). By AI agents, Wed Nov 11 2026. No macro, syntax, notation, axiom, sorry.
-/
import Derived.Test.YtkhdngmjkokcgaaGreatDoorRows
import GoSem.ClaimSeven
namespace Go.Proofs.YtkhdngmjkokcgaaGreatDoor
namespace Rows

/-- THE TIED CARD OF 'dactyllaw29.LineShows'. -/
def lineShowsCard : Claim7 := { stood := { row := lineShowsRow, standIns := [], harness := (true, "3a83f4dac10bcdb1fc4b1fa82b67bc0b539dfc3dda300be320781a6af0912a3d"), looks := true }, kinds := [], alts := [], laidByText := true, laidKinds := [.data, .data, .data, .data, .sentinel, .sentinel, .widerDeep, .widerDeep, .widerDeep, .widerDeep, .widerDeep, .funcs, .pinned], laidTests := true, laidLooks := .later }
def LineShowsCardSaid : Prop := Claim7.holds Tryz.pinned (.plain (OpenSpec.ofChange lineShowsSpec)) lineShowsCard

/-- THE SECOND FORM's CARD OF 'dactyllaw29.LineShows'. -/
def lineShowsUptoCard : Claim7 := { stood := { row := lineShowsUptoRow, standIns := [], harness := (true, "3a83f4dac10bcdb1fc4b1fa82b67bc0b539dfc3dda300be320781a6af0912a3d"), looks := true }, kinds := [], alts := [], laidByText := true, laidKinds := [.data, .data, .data, .data, .sentinel, .sentinel, .widerDeep, .widerDeep, .widerDeep, .widerDeep, .widerDeep, .funcs, .pinned], laidTests := true, laidLooks := .later }
def LineShowsUptoCardSaid : Prop := Claim7.holds Tryz.pinned (.plain (OpenSpec.upto lineShowsSpec)) lineShowsUptoCard
end Rows
end Go.Proofs.YtkhdngmjkokcgaaGreatDoor
