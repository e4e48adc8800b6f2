/-
  DERIVED. GIVEN WITH THE SEED: THE CARDS: each row of YtfpndhocfmfgdaaGreatDoorRows.lean that lists a variable, with what it lists TIED to the program's text (the seventh form; the later family's looks); each row that meets fmt, with fmt's text TOLD by the authors' own Lean function (tested against real Go, not proved from fmt's source: count such statements apart). THE CARD IS WHAT COUNTS. Prove the row's statement (the work); the ties are given (YtfpndhocfmfgdaaGreatDoorTie.lean); close each card by the builder's one call (the guide's Derived/Test/ToyasCard.lean, 'card_holds'). Laid BY PROGRAM, IN A SANDBOX (cutbox-door.mjs). By AI agents, Wed Nov 11 2026. No macro, syntax, notation, axiom, sorry.
-/
import Derived.Test.YtfpndhocfmfgdaaGreatDoorRows
import GoSem.ClaimSeven
namespace Go.Proofs.YtfpndhocfmfgdaaGreatDoor
namespace Rows

/-- THE TIED CARD OF 'dactyllaw25.SourceDifferent'. -/
def sourceDifferentCard : Claim7 := { stood := { row := sourceDifferentRow, standIns := [], harness := (true, "06acb1ac14a61c76681ecd6f4c07c9dee31c8fb63509c56b306ad5267d9a403c"), looks := true }, kinds := [], alts := [], laidByText := true, laidKinds := [.data, .data, .data, .data, .sentinel, .sentinel, .widerDeep, .widerDeep, .widerDeep, .widerDeep, .widerDeep, .pinned], laidTests := true, laidLooks := .later }
def SourceDifferentCardSaid : Prop := Claim7.holds Tryz.pinned (.plain (OpenSpec.ofChange sourceDifferentSpec)) sourceDifferentCard

/-- THE SECOND FORM's CARD OF 'dactyllaw25.SourceDifferent'. -/
def sourceDifferentUptoCard : Claim7 := { stood := { row := sourceDifferentUptoRow, standIns := [], harness := (true, "06acb1ac14a61c76681ecd6f4c07c9dee31c8fb63509c56b306ad5267d9a403c"), looks := true }, kinds := [], alts := [], laidByText := true, laidKinds := [.data, .data, .data, .data, .sentinel, .sentinel, .widerDeep, .widerDeep, .widerDeep, .widerDeep, .widerDeep, .pinned], laidTests := true, laidLooks := .later }
def SourceDifferentUptoCardSaid : Prop := Claim7.holds Tryz.pinned (.plain (OpenSpec.upto sourceDifferentSpec)) sourceDifferentUptoCard
end Rows
end Go.Proofs.YtfpndhocfmfgdaaGreatDoor
