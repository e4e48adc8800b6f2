/-
  DERIVED. GIVEN WITH THE SEED: THE CARDS: each row of YtebodiamojfnnaaGreatDoorRows.lean that lists a variable, with what it lists TIED to the program's text (the seventh form; the later family's looks); each row that meets fmt, with fmt's text TOLD by the authors' own Lean function (tested against real Go, not proved from fmt's source: count such statements apart). THE CARD IS WHAT COUNTS. Prove the row's statement (the work); the ties are given (YtebodiamojfnnaaGreatDoorTie.lean); close each card by the builder's one call (the guide's Derived/Test/ToyasCard.lean, 'card_holds'). Laid BY PROGRAM, IN A SANDBOX (cutbox-door.mjs). By AI agents, Wed Nov 11 2026. No macro, syntax, notation, axiom, sorry.
-/
import Derived.Test.YtebodiamojfnnaaGreatDoorRows
import GoSem.ClaimSeven
namespace Go.Proofs.YtebodiamojfnnaaGreatDoor
namespace Rows

/-- THE TIED CARD OF 'dactyllaw25.SourceKnown'. -/
def sourceKnownCard : Claim7 := { stood := { row := sourceKnownRow, standIns := [], harness := (true, "d27ad1208713fbc4bfa9967307843a0209bc7a1716a8347b97e093330f32b722"), looks := true }, kinds := [], alts := [], laidByText := true, laidKinds := [.data, .data, .data, .data, .sentinel, .sentinel, .widerDeep, .widerDeep, .widerDeep, .widerDeep, .widerDeep, .funcs, .pinned], laidTests := true, laidLooks := .later }
def SourceKnownCardSaid : Prop := Claim7.holds Tryz.pinned (.plain (OpenSpec.ofChange sourceKnownSpec)) sourceKnownCard

/-- THE SECOND FORM's CARD OF 'dactyllaw25.SourceKnown'. -/
def sourceKnownUptoCard : Claim7 := { stood := { row := sourceKnownUptoRow, standIns := [], harness := (true, "d27ad1208713fbc4bfa9967307843a0209bc7a1716a8347b97e093330f32b722"), looks := true }, kinds := [], alts := [], laidByText := true, laidKinds := [.data, .data, .data, .data, .sentinel, .sentinel, .widerDeep, .widerDeep, .widerDeep, .widerDeep, .widerDeep, .funcs, .pinned], laidTests := true, laidLooks := .later }
def SourceKnownUptoCardSaid : Prop := Claim7.holds Tryz.pinned (.plain (OpenSpec.upto sourceKnownSpec)) sourceKnownUptoCard
end Rows
end Go.Proofs.YtebodiamojfnnaaGreatDoor
